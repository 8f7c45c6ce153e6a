/- Rows of whole numbers, saturating sums: what the functions about routes need. -/
import Derived.Test.YtmjpajaeffhdeaaL1m
namespace Go.Proofs.Ytmjpajaeffhdeaa.L1
open Go.RowKit Go.Proofs.YtmjpajaeffhdeaaW.PrintWords Go.Proofs.Ytmjpajaeffhdeaa.B
set_option linter.unusedVariables false
set_option linter.unusedSimpArgs false
attribute [local go_sem] mk_cell mk_frozen
def kInt : Kd Int := Kd.flat 1 (fun n => [.int .i64 n]) (fun _ => rfl) (by intro x u hu; simp at hu; rcases hu with rfl; rfl)
def ReadInts (w : World) (v : Value) (xs : List Int) : Prop := ∃ A c, v = .slice A xs.length c ∧ kInt.C w A xs.length xs
theorem ReadInts.below {w w1 : World} {v : Value} {xs : List Int} (h : ReadInts w v xs) (hb : Below w.heap.size w w1) : ReadInts w1 v xs := by
  obtain ⟨A, c, rfl, h0⟩ := h
  exact ⟨A, c, rfl, Kd.C_below h0 hb⟩
def clampI (a : Int) : Int := if 1000000000 < a then 1000000000 else if a < -1000000000 then -1000000000 else a
def satAdd (a b : Int) : Int := clampI (clampI a + clampI b)
theorem clamp_bd (a : Int) : -1000000000 ≤ clampI a ∧ clampI a ≤ 1000000000 := by unfold clampI; split; omega; split <;> omega
section
variable (w : World)
theorem spec_clamp (a : Int) : Calls Try.prog 53 #[.int .i64 a] w fun e w' => e = .returned (.int .i64 (clampI a)) ∧ w' = w := by
  go_enter Try.func53, Try.ntmps53
  go_wp2
  all_goals (go_ret; refine ⟨?_, rfl⟩; unfold clampI; (repeat' split) <;> first | rfl | (exfalso; omega) | (show Ending.returned (Value.int .i64 _) = _; congr 2; omega))
theorem impl_clamp (a : Int) : Calls Try.prog 54 #[.int .i64 a] w fun e w' => e = .returned (.int .i64 (clampI a)) ∧ w' = w := by
  go_enter Try.func54, Try.ntmps54
  go_wp2
  all_goals (go_ret; refine ⟨?_, rfl⟩; unfold clampI; (repeat' split) <;> first | rfl | (exfalso; omega) | (show Ending.returned (Value.int .i64 _) = _; congr 2; omega))
theorem impl_SatAdd (a b : Int) : Calls Try.prog 15 #[.int .i64 a, .int .i64 b] w fun e w' => e = .returned (.int .i64 (satAdd a b)) ∧ w' = w := by
  have q0 : IntKind.i64.wrap (clampI a + clampI b) = clampI a + clampI b := IntWalk.i64_in _ (by have := clamp_bd a; have := clamp_bd b; omega)
  go_enter Try.func15, Try.ntmps15
  go_wp2_with (first | (go_at_call 54; refine (impl_clamp _ _).mono ?_; rintro e w' ⟨rfl, rfl⟩))
  go_ret
  exact ⟨rfl, rfl⟩
theorem spec_SatAdd (a b : Int) : Calls Try.prog 14 #[.int .i64 a, .int .i64 b] w fun e w' => e = .returned (.int .i64 (satAdd a b)) ∧ w' = w := by
  have q0 : IntKind.i64.wrap (clampI a + clampI b) = clampI a + clampI b := IntWalk.i64_in _ (by have := clamp_bd a; have := clamp_bd b; omega)
  go_enter Try.func14, Try.ntmps14
  go_wp2_with (first | (go_at_call 53; refine (spec_clamp _ _).mono ?_; rintro e w' ⟨rfl, rfl⟩))
  go_ret
  exact ⟨rfl, rfl⟩
set_option maxHeartbeats 1000000 in
theorem toInt64S (A : Option Addr) (c : Nat) (xs : List Int) (hr : kInt.C w A xs.length xs) (hm : xs.length ≤ 1048576) : Calls Try.prog 45 #[.slice A xs.length c] w fun e w' => ∃ v, e = .returned v ∧ kInt.R 2 w' w.heap.size (fun _ => True) v xs ∧ Below w.heap.size w w' := by
  have HR := Aside0.mk hr; clear hr
  go_enter Try.func45, Try.ntmps45
  go_wp2_with (refine Kd.flat_make kInt rfl 7 rfl rfl 61 _ _ rfl xs.length rfl rfl 2 Try.underlying61 0 8 (by kernel_rfl) (by decide) (by decide) (by omega) (Below.refl _ _) ?_; intro v1 w1 hr1 hb1 _)
  have HR1 := Aside0.mk hr1; have HB1 := Aside0.mk hb1; clear hr1 hb1
  go_loopg [4] (xs.length + 1) (fun q v4 wr => ∃ k ys, q = xs.length + 1 - k ∧ k ≤ xs.length ∧ v4 = .int .i64 k ∧ Aside0 (Filled xs k ys) ∧ Aside0 (kInt.R 2 wr w.heap.size (fun _ => True) v1 ys) ∧ Aside0 (Below w.heap.size w wr))
  case atStart => exact ⟨0, _, by omega, by omega, rfl, ⟨Filled.zero xs 0⟩, HR1, HB1⟩
  case round =>
    obtain ⟨k, ys, rfl, hk, rfl, HF, HO, HB⟩ := hrel
    clear HR1 HB1
    by_cases hlt : k < xs.length
    · have hf := HF.out.step hlt 0
      obtain ⟨ad, e0, h0, h1⟩ := Kd.flat_cells (d := kInt) rfl (Kd.C_below HR.out HB.out) 0 k hlt
      cases e0
      generalize xs.getD k 0 = x at hf h0 h1
      have HF1 := Aside0.mk hf; clear hf
      have c0 := h0 _ rfl; simp only [Nat.mul_one] at c0
      clear h0 h1
      obtain ⟨g, cap, rfl, hg, _, _⟩ := Kd.R_form HO.out (by rw [HF.out.1]; omega)
      have hky : k < ys.length := by rw [HF.out.1]; exact hlt
      go_wp2_with (first | ((with_reducible refine gate_store (t := 2) (p := 20) rfl ?_); refine Kd.flat_store kInt rfl rfl rfl 2 _ _ rfl k x rfl (Nat.mul_one k).symm rfl (by kernel_rfl) HO.out hky HB.out ?_; intro w3 hr3 hb3 _; have HO1 := Aside0.mk hr3; have HB1 := Aside0.mk hb3; clear hr3 hb3))
      go_roundg (xs.length + 1 - (k + 1))
      case measure => omega
      case rel => exact ⟨k + 1, _, rfl, hlt, by go_num, HF1, HO1, HB1⟩
    · go_wp2
      go_ret
      exact ⟨_, rfl, by rw [← HF.out.done (by omega)]; exact HO.out, HB.out⟩
set_option maxHeartbeats 1000000 in
theorem eqInt64S (A A' : Option Addr) (c c' : Nat) (xs : List Int) (hr : kInt.C w A xs.length xs) (hr' : kInt.C w A' xs.length xs) (hm : xs.length ≤ 1048576) : Calls Try.prog 47 #[.slice A xs.length c, .slice A' xs.length c'] w fun e w' => e = .returned (.bool true) ∧ Below w.heap.size w w' := by
  have HR := Aside0.mk hr; have HR' := Aside0.mk hr'; clear hr hr'
  go_enter Try.func47, Try.ntmps47
  go_wp2_with fail
  go_loopg [5] (xs.length + 1) (fun q v wr => ∃ k, q = xs.length + 1 - k ∧ k ≤ xs.length ∧ v = .int .i64 k ∧ Aside0 (Below w.heap.size w wr))
  case atStart => exact ⟨0, by omega, by omega, rfl, ⟨Below.refl _ _⟩⟩
  case round =>
    obtain ⟨k, rfl, hk, rfl, HB⟩ := hrel
    by_cases hlt : k < xs.length
    · obtain ⟨ad, e0, h0, h1⟩ := Kd.flat_cells (d := kInt) rfl (Kd.C_below HR.out HB.out) 0 k hlt
      obtain ⟨ad', e0', g0, g1⟩ := Kd.flat_cells (d := kInt) rfl (Kd.C_below HR'.out HB.out) 0 k hlt
      cases e0; cases e0'
      generalize xs.getD k 0 = x at h0 h1 g0 g1
      have c0 := h0 _ rfl; have d0 := g0 _ rfl
      simp only [Nat.mul_one] at c0 d0
      clear h0 h1 g0 g1
      have p0 : (x == x) = true := by simp
      go_wp2_with fail
      go_quiet (fail)
      go_wp2
      go_roundg (xs.length + 1 - (k + 1))
      case measure => omega
      case rel => exact ⟨k + 1, rfl, hlt, by go_num, ⟨pw_below_drewN HB.out _⟩⟩
    · go_wp2
      go_ret
      exact ⟨rfl, HB.out⟩
end
end Go.Proofs.Ytmjpajaeffhdeaa.L1
