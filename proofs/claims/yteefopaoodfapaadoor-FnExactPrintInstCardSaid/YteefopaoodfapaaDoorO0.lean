/- What comes in is opened: a struct of whole numbers, a row of them. -/
import Derived.Test.YteefopaoodfapaaDoorB0
import Derived.Deep.Slices
import Derived.Deep.Strs
import Derived.Lib.SmallJoins
set_option linter.unusedVariables false
namespace Go.Proofs.YteefopaoodfapaaDoor.Open
open Go.RowKit Go.Proofs.YteefopaoodfapaaDoorW.PrintWords
section
variable (P : Program)
def flatFs (r : TypeId → Option Nat) : List Field → Nat → Option Nat
  | [], off => some off
  | f :: fs, off => match r f.type with
    | some n => if f.offset = off ∧ P.cellsOf f.type = n then flatFs r fs (off + n) else none
    | none => none
/-- How many cells a type of 64 bit numbers alone has. -/
def flatN : Nat → TypeId → Option Nat
  | 0, _ => none
  | d + 1, t => match P.underlying t with
    | some (.int .i64) => some 1
    | some (.struct fs) => match flatFs P (flatN d) fs.toList 0 with
      | some n => if P.cellsOf t = n then some n else none
      | none => none
    | _ => none
end
section
variable {H : Type} {enc : TypeId × Value → H} {P : Program} {w : World} {base : Nat} {spare : Nat → Bool} {held : Bool}
theorem flat_fields {d n : Nat} {cs : List Value} (ih : ∀ (t : TypeId) (k m : Nat) (cs : List Value) (x : DataW H × List MemPlace), flatN P d t = some k → DataW.trod enc P w base spare held m t cs = some x → ∃ zs : List Int, zs.length = k ∧ cs = zs.map (Value.int .i64)) :
    ∀ (fs : List Field) (off m : Nat) (xs : List (DataW H × List MemPlace)), flatFs P (flatN P d) fs off = some m →
      (∀ (i : Nat) (f : Field), fs[i]? = some f → ∃ x, DataW.trod enc P w base spare held n f.type ((cs.drop f.offset).take (P.cellsOf f.type)) = some x) →
      ∃ zs : List Int, off + zs.length = m ∧ (cs.drop off).take zs.length = zs.map (Value.int .i64)
  | [], off, m, xs, h, _ => by
    simp only [flatFs, Option.some.injEq] at h
    exact ⟨[], by simpa using h, by simp⟩
  | f :: fs, off, m, xs, h, hx => by
    unfold flatFs at h
    cases hr : flatN P d f.type with
    | none => rw [hr] at h; cases h
    | some k =>
      rw [hr] at h
      simp only at h
      split at h
      · rename_i hc
        obtain ⟨x, hx0⟩ := hx 0 f rfl
        obtain ⟨zs1, l1, e1⟩ := ih _ _ _ _ _ hr hx0
        obtain ⟨zs2, l2, e2⟩ := flat_fields ih fs (off + k) m xs h (fun i f' hf => hx (i + 1) f' (by simpa using hf))
        rw [hc.1, hc.2] at e1
        refine ⟨zs1 ++ zs2, by simp; omega, ?_⟩
        rw [List.length_append, l1, List.take_add, e1, List.drop_drop, e2, List.map_append]
      · cases h
theorem flat_ints : ∀ (d : Nat) (t : TypeId) (k m : Nat) (cs : List Value) (x : DataW H × List MemPlace), flatN P d t = some k → DataW.trod enc P w base spare held m t cs = some x → ∃ zs : List Int, zs.length = k ∧ cs = zs.map (Value.int .i64)
  | 0, t, k, m, cs, x, h, _ => by simp [flatN] at h
  | d + 1, t, k, m, cs, x, h, hx => by
    unfold flatN at h
    split at h
    · rename_i ht
      simp only [Option.some.injEq] at h
      obtain ⟨n, rfl, _, _⟩ := DataW.trod_int ht hx
      exact ⟨[n], by simpa using h, rfl⟩
    · rename_i fs ht
      split at h
      · rename_i n hn
        split at h
        · rename_i hc
          simp only [Option.some.injEq] at h
          subst h
          obtain ⟨xs, m', rfl, rfl, hl, hlen, hf⟩ := DataW.trod_struct ht hx
          obtain ⟨zs, l1, e1⟩ := flat_fields (n := m') (cs := cs) (flat_ints d) fs.toList 0 n xs hn (fun i f hif => by
            have hi : i < xs.length := by
              have := (List.getElem?_eq_some_iff.1 hif).1
              simp at this; omega
            exact ⟨_, by simpa [List.getElem?_eq_getElem hi] using hf i f (by simpa using hif)⟩)
          refine ⟨zs, by omega, ?_⟩
          simp only [List.drop_zero] at e1
          rw [← e1, List.take_of_length_le (by omega)]
        · cases h
      · cases h
    · cases h
open Go.Proofs.YteefopaoodfapaaDoorW.PrintWords.Kd in
/-- A row that came in: of any kind whose element can be told from its reading. -/
theorem open_C {α : Type} (d : Kd α) {t e : TypeId} {fuel : Nat} {cs : List Value} {x : DataW H × List MemPlace} (ht : P.underlying t = some (.slice e)) (hsz : P.cellsOf e = d.sz)
    (hel : ∀ n cs x, DataW.trod enc P w base spare held n e cs = some x → ∃ y, d.K w y cs) (h : DataW.trod enc P w base spare held fuel t cs = some x) :
    ∃ A c xs, cs = [.slice A xs.length c] ∧ d.C w A xs.length xs := by
  rcases Deep.open_slice ht h with ⟨rfl, rfl⟩ | ⟨a, len, cap, m, n, D, Pl, rfl, hb, hl, hm, hmm, rfl, hx⟩
  · exact ⟨none, 0, [], rfl, rfl, by simp, by simp⟩
  · have hlm : len ≤ m := by rw [hmm]; split <;> omega
    have hy : ∀ i, i < len → ∃ y, ∃ cs', w.cells? base (a.add (i * P.cellsOf e)) (P.cellsOf e) = some cs' ∧ d.K w y cs' := fun i hi => by
      obtain ⟨cs', h1, h2⟩ := hx i (by omega)
      obtain ⟨y, hy⟩ := hel _ _ _ h2
      exact ⟨y, cs', h1, hy⟩
    have hex : ∃ xs : List α, xs.length = len ∧ ∀ j p, xs[j]? = some p → ∃ cs', w.cells? base (a.add (j * P.cellsOf e)) (P.cellsOf e) = some cs' ∧ d.K w p cs' := by
      refine ⟨(List.range len).pmap (fun i (hi : i < len) => (hy i hi).choose) (fun i hi => by simpa using hi), by simp, fun j p hp => ?_⟩
      have hj : j < len := by simpa using (List.getElem?_eq_some_iff.1 hp).1
      have : (hy j hj).choose = p := by
        obtain ⟨hj', e⟩ := List.getElem?_eq_some_iff.1 hp
        simpa using e
      rw [← this]
      exact (hy j hj).choose_spec
    obtain ⟨xs, rfl, hxs⟩ := hex
    refine ⟨some a, cap, xs, rfl, rfl, by have : maxLen ≤ 9223372036854775807 := by decide
                                          omega, fun _ => ⟨a, rfl, fun j p hp => ?_⟩⟩
    obtain ⟨cs', h1, h2⟩ := hxs j p hp
    have hlen := d.K_len h2
    refine ⟨cs', hlen, h2, fun i u hu => ?_⟩
    unfold World.cells? at h1
    split at h1
    · have hi : i < d.sz := by have := (List.getElem?_eq_some_iff.1 hu).1; omega
      have h3 := mapM_some_get h1 i i (by rw [hsz]; simp [hi])
      rw [Deep.add_add, hsz, hu] at h3
      exact h3
    · cases h1
end
end Go.Proofs.YteefopaoodfapaaDoor.Open
