/- Numbers as bytes, as the reference tells it. -/
import Derived.Test.YtmjpajaeffhdeaaL3g
import Derived.Test.YtmjpajaeffhdeaaL2a
import Derived.Test.YtmjpajaeffhdeaaG2
namespace Go.Proofs.Ytmjpajaeffhdeaa.L1
open Go.RowKit Go.Proofs.YtmjpajaeffhdeaaW.PrintWords Go.Proofs.Ytmjpajaeffhdeaa.B
set_option linter.unusedVariables false
set_option linter.unusedSimpArgs false
attribute [local go_sem] mk_cell mk_frozen
def groups (z : Nat) : List Int := if z < 128 then [(z : Int)] else ((128 + z % 128 : Nat) : Int) :: groups (z / 128)
termination_by z
decreasing_by omega
theorem groups_small {z : Nat} (h : z < 128) : groups z = [(z : Int)] := by rw [groups]; exact if_pos h
theorem groups_big {z : Nat} (h : ¬ z < 128) : groups z = ((128 + z % 128 : Nat) : Int) :: groups (z / 128) := by rw [groups]; exact if_neg h
theorem groups_len (k : Nat) : ∀ z, z < 128 ^ (k + 1) → (groups z).length ≤ k + 1 := by
  induction k with
  | zero => intro z h; rw [groups_small (by simpa using h)]; simp
  | succ k ih =>
    intro z h
    by_cases hz : z < 128
    · rw [groups_small hz]; simp
    · rw [groups_big hz, List.length_cons]
      have := ih (z / 128) (by rw [Nat.div_lt_iff_lt_mul (by decide)]; rw [Nat.pow_succ] at h; exact h)
      omega
def zig (n : Int) : Nat := if n < 0 then (-2 * n - 1).toNat else (2 * n).toNat
theorem zig_lt {n : Int} (h : -1000000000 ≤ n ∧ n ≤ 1000000000) : zig n ≤ 2000000000 := by unfold zig; split <;> omega
def varOf (n : Int) : List Int := groups (zig n)
theorem varOf_len {n : Int} (h : -1000000000 ≤ n ∧ n ≤ 1000000000) : (varOf n).length ≤ 5 := groups_len 4 _ (by have := zig_lt h; omega)
def kByte : Kd Int := Kd.flat 1 (fun n => [.int .u8 n]) (fun _ => rfl) (by intro x u hu; simp at hu; rcases hu with rfl; rfl)
theorem flat_lit {α : Type} {n : Nat} {enc : α → List Value} {hn : ∀ x, (enc x).length = n} {h1 : ∀ x, ∀ u ∈ enc x, u.oneCell' = true} {d : Kd α} (hd : d = Kd.flat n enc hn h1) (W : World) (base : Nat) (e : TypeId) (xs : List α) (hb : base ≤ W.heap.size) (hm : xs.length ≤ 9223372036854775807) :
    d.R e (W.alloc (.cells (xs.flatMap enc).toArray e)) base (fun _ => True) (.slice (some ⟨W.heap.size, 0, none⟩) xs.length xs.length) xs := by
  subst hd
  exact ⟨fun _ _ => trivial, OwnRow.lit W base (reps_flat hn xs) hb hm⟩
set_option maxRecDepth 100000 in
set_option maxHeartbeats 2000000 in
theorem spec_groups : ∀ (z : Nat) (w : World), z ≤ 4000000000000000000 → Calls Try.prog 112 #[.int .i64 z] w fun e w' => ∃ v, e = .returned v ∧ kByte.R 5 w' w.heap.size (fun _ => True) v (groups z) ∧ Below w.heap.size w w' := by
  intro z
  induction z using Nat.strongRecOn with
  | _ z ih =>
  intro w hz
  by_cases h : z < 128
  · have p0 : decide ((z : Int) < 128) = true := decide_eq_true (by omega)
    go_enter Try.func112, Try.ntmps112
    go_wp2
    go_ret
    exact ⟨_, rfl, by rw [groups_small h]; exact flat_lit (d := kByte) rfl w w.heap.size 5 [(z : Int)] (Nat.le_refl _) (by simp), below_alloc (Below.refl _ _) _⟩
  · have p0 : decide ((z : Int) < 128) = false := decide_eq_false (by omega)
    go_enter Try.func112, Try.ntmps112
    have hlit := flat_lit (d := kByte) rfl w w.heap.size 5 [(128 + (z : Int) % 128)] (Nat.le_refl _) (by simp)
    have HR := Aside0.mk hlit; clear hlit
    have HB := Aside0.mk (below_alloc (Below.refl w.heap.size w) (.cells #[.int .u8 (128 + (z : Int) % 128)] 5))
    have HG := Aside0.mk (show groups z = [(128 + (z : Int) % 128)] ++ groups (z / 128) by rw [groups_big h]; show _ :: _ = _ :: _; congr 1)
    have HI := Aside0.mk (ih (z / 128) (by omega)); clear ih
    have HL := Aside0.mk (show (groups (z / 128)).length ≤ 9 from groups_len 8 _ (by omega))
    go_wp2_with fail
    go_at_call 112
    refine (HI.out _ (by omega)).mono ?_
    rintro e w1 ⟨v, rfl, hr, hb⟩
    obtain ⟨A, m, rfl, _, hc⟩ := Kd.R_reads hr
    have HR1 := Aside0.mk (Kd.R_below HR.out hb); have HC := Aside0.mk hc; have HB1 := Aside0.mk (bel_call HB.out hb); clear hr hc hb
    go_wp2_with (refine Kd.flat_append_row kByte rfl (w0 := w) w.heap.size rfl _ _ 36 5 0 1 rfl Try.underlying36 (by kernel_rfl) (by decide) (by decide) _ [(128 + (z : Int) % 128)] (groups (z / 128)) _ _ _ rfl rfl HR1.out HC.out HB1.out HB1.out.size (by have := HL.out; simp; omega) ?_; intro v2 w2 hr2 hb2 _ _; have HR2 := Aside0.mk hr2; have HB2 := Aside0.mk hb2; clear hr2 hb2)
    go_ret
    exact ⟨_, rfl, by rw [HG.out]; exact HR2.out, HB2.out⟩
section
variable (w : World)
set_option maxRecDepth 100000 in
set_option maxHeartbeats 2000000 in
theorem spec_var (n : Int) (hn : -1000000000 ≤ n ∧ n ≤ 1000000000) : Calls Try.prog 63 #[.int .i64 n] w fun e w' => ∃ v, e = .returned v ∧ kByte.R 5 w' w.heap.size (fun _ => True) v (varOf n) ∧ Below w.heap.size w w' := by
  rcases Int.lt_or_le n 0 with h | h
  · have p0 : decide (n < 0) = true := decide_eq_true h
    obtain ⟨z, hz⟩ : ∃ z : Nat, -2 * n - 1 = (z : Int) := ⟨(-2 * n - 1).toNat, by omega⟩
    have q0 : IntKind.i64.wrap (-2 * n) = -2 * n := IntWalk.i64_in _ (by omega)
    have q1 : IntKind.i64.wrap (-2 * n - 1) = (z : Int) := by rw [IntWalk.i64_in _ (by omega)]; exact hz
    have HV := Aside0.mk (show varOf n = groups z by unfold varOf zig; rw [if_pos h, hz]; rfl)
    have HZ := Aside0.mk (show z ≤ 4000000000000000000 by omega)
    clear hz
    go_enter Try.func63, Try.ntmps63
    go_wp2_with fail
    go_at_call 112
    refine (spec_groups z _ HZ.out).mono ?_
    rintro e w1 ⟨v, rfl, hr, hb⟩
    have HR := Aside0.mk hr; clear hr
    go_wp2
    go_ret
    exact ⟨_, rfl, by rw [HV.out]; exact HR.out, hb⟩
  · have p0 : decide (n < 0) = false := decide_eq_false (by omega)
    obtain ⟨z, hz⟩ : ∃ z : Nat, 2 * n = (z : Int) := ⟨(2 * n).toNat, by omega⟩
    have q0 : IntKind.i64.wrap (2 * n) = (z : Int) := by rw [IntWalk.i64_in _ (by omega)]; exact hz
    have HV := Aside0.mk (show varOf n = groups z by unfold varOf zig; rw [if_neg (by omega), hz]; rfl)
    have HZ := Aside0.mk (show z ≤ 4000000000000000000 by omega)
    clear hz
    go_enter Try.func63, Try.ntmps63
    go_wp2_with fail
    go_at_call 112
    refine (spec_groups z _ HZ.out).mono ?_
    rintro e w1 ⟨v, rfl, hr, hb⟩
    have HR := Aside0.mk hr; clear hr
    go_wp2
    go_ret
    exact ⟨_, rfl, by rw [HV.out]; exact HR.out, hb⟩
end
end Go.Proofs.Ytmjpajaeffhdeaa.L1
