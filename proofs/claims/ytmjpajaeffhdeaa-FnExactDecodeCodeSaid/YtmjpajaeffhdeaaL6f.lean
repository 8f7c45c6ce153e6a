/- What the program's reader has come to: plain law. -/
import Derived.Test.YtmjpajaeffhdeaaL6e
namespace Go.Proofs.Ytmjpajaeffhdeaa.L1
open Go.RowKit Go.Proofs.YtmjpajaeffhdeaaW.PrintWords Go.Proofs.Ytmjpajaeffhdeaa.B
set_option linter.unusedVariables false
set_option linter.unusedSimpArgs false
def RdState (bs xs : List Int) (bad : Bool) (rest : List Int) : Prop := (bad = false → takeN xs.length bs = some (xs, rest)) ∧ (bad = true → decode bs = Code.zero)
theorem RdState.start (bs : List Int) : RdState bs [] false bs := ⟨fun _ => rfl, fun h => by cases h⟩
theorem RdState.num {bs xs r0 r1 : List Int} {bad bad1 : Bool} {m : Int} (h : RdState bs xs bad r0) (hn : NumOk r0 bad bad1 m r1) (hz : takeN (xs.length + 1) bs = none → decode bs = Code.zero) : RdState bs (xs ++ [m]) bad1 r1 := by
  unfold NumOk at hn
  have hs := takeN_snoc xs.length bs
  cases bad with
  | true =>
    have hb : bad1 = true := by
      cases ho : one r0 with
      | none => rw [ho] at hn; exact hn
      | some p => rw [ho] at hn; exact hn.2.2
    subst hb
    exact ⟨fun e => (by cases e), fun _ => h.2 rfl⟩
  | false =>
    rw [h.1 rfl] at hs
    cases ho : one r0 with
    | none =>
      rw [ho] at hn
      simp only [ho] at hs
      have hb : bad1 = true := hn
      subst hb
      exact ⟨fun e => (by cases e), fun _ => hz hs⟩
    | some p =>
      obtain ⟨n, r⟩ := p
      rw [ho] at hn
      simp only [ho] at hs
      obtain ⟨rfl, rfl, rfl⟩ := hn
      refine ⟨fun _ => ?_, fun e => (by cases e)⟩
      rw [List.length_append]
      exact hs
theorem decode_short {bs : List Int} {k : Nat} (hk : k ≤ 5) (h : takeN k bs = none) : decode bs = Code.zero := by
  cases hp : parse bs with
  | none => exact decode_none hp
  | some ns =>
    have := takeN_none k bs h ns hp
    refine decode_bad hp ?_
    unfold nsOk; rw [decide_eq_false (by omega)]; rfl
theorem parse_pre {bs xs r ns : List Int} {k : Nat} (h : takeN k bs = some (xs, r)) (hp : parse bs = some ns) : xs.length = k ∧ ∃ ms, parse r = some ms ∧ ns = xs ++ ms := by
  obtain ⟨h1, h2⟩ := takeN_some k bs xs r h
  rw [hp] at h2
  cases hr : parse r with
  | none => rw [hr] at h2; cases h2
  | some ms => rw [hr] at h2; simp only [Option.map_some, Option.some.injEq] at h2; exact ⟨h1, ms, rfl, h2⟩
theorem getD_pre {xs ms : List Int} {i : Nat} (h : i < xs.length) : (xs ++ ms).getD i 0 = xs.getD i 0 := by
  rw [List.getD_eq_getElem?_getD, List.getElem?_append_left h, List.getD_eq_getElem?_getD]
theorem decode_len {bs xs r : List Int} {k i : Nat} (h : takeN k bs = some (xs, r)) (hi : i < k) (h2 : 2 ≤ i) (h4 : i ≤ 4) (hb : inB (xs.getD i 0) 0 16384 = false) : decode bs = Code.zero := by
  cases hp : parse bs with
  | none => exact decode_none hp
  | some ns =>
    obtain ⟨h1, ms, _, rfl⟩ := parse_pre h hp
    refine decode_bad hp ?_
    have := getD_pre (ms := ms) (show i < xs.length by omega)
    rw [← this] at hb
    unfold nsOk
    rcases (show i = 2 ∨ i = 3 ∨ i = 4 by omega) with rfl | rfl | rfl <;> rw [hb] <;> simp
theorem decode_more {bs xs r : List Int} {k : Nat} (h : takeN 5 bs = some (xs, r)) (hn : takeN k bs = none) (hk : (k : Int) ≤ 5 + 4 * (xs.getD 2 0 + xs.getD 3 0 + xs.getD 4 0)) : decode bs = Code.zero := by
  cases hp : parse bs with
  | none => exact decode_none hp
  | some ns =>
    have hl := takeN_none k bs hn ns hp
    obtain ⟨h1, ms, _, rfl⟩ := parse_pre h hp
    refine decode_bad hp ?_
    unfold nsOk
    rw [getD_pre (show 2 < xs.length by omega), getD_pre (show 3 < xs.length by omega), getD_pre (show 4 < xs.length by omega), decide_eq_false (show ¬ (((xs ++ ms).length : Int) = 5 + 4 * (xs.getD 2 0 + xs.getD 3 0 + xs.getD 4 0)) by omega)]
    simp
theorem decode_left {bs xs r : List Int} {k : Nat} (h5 : 5 ≤ k) (h : takeN k bs = some (xs, r)) (hk : (k : Int) = 5 + 4 * (xs.getD 2 0 + xs.getD 3 0 + xs.getD 4 0)) (hr : r ≠ []) : decode bs = Code.zero := by
  cases hp : parse bs with
  | none => exact decode_none hp
  | some ns =>
    obtain ⟨h1, ms, hm, rfl⟩ := parse_pre h hp
    have hms : ms ≠ [] := by
      intro e; subst e
      cases ho : one r with
      | none => rw [parse_none hr ho] at hm; cases hm
      | some p =>
        obtain ⟨n, r'⟩ := p
        rw [parse_some ho] at hm
        cases hq : parse r' with
        | none => rw [hq] at hm; cases hm
        | some q => rw [hq] at hm; cases hm
    have hml : 0 < ms.length := List.length_pos_iff.2 hms
    refine decode_bad hp ?_
    unfold nsOk
    rw [getD_pre (show 2 < xs.length by omega), getD_pre (show 3 < xs.length by omega), getD_pre (show 4 < xs.length by omega), List.length_append, decide_eq_false (show ¬ (((xs.length + ms.length : Nat) : Int) = 5 + 4 * (xs.getD 2 0 + xs.getD 3 0 + xs.getD 4 0)) by omega)]
    simp
theorem parse_all {bs xs : List Int} {k : Nat} (h : takeN k bs = some (xs, [])) : parse bs = some xs := by
  obtain ⟨_, h2⟩ := takeN_some k bs xs [] h
  rw [h2, parse_nil]; simp
theorem nsOk_of {xs : List Int} (h5 : 5 ≤ xs.length) (h2 : inB (xs.getD 2 0) 0 16384 = true) (h3 : inB (xs.getD 3 0) 0 16384 = true) (h4 : inB (xs.getD 4 0) 0 16384 = true) (hk : (xs.length : Int) = 5 + 4 * (xs.getD 2 0 + xs.getD 3 0 + xs.getD 4 0)) : nsOk xs = true := by
  unfold nsOk; rw [decide_eq_true h5, h2, h3, h4, decide_eq_true hk]; rfl
end Go.Proofs.Ytmjpajaeffhdeaa.L1
