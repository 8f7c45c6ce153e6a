/- ValidCode of the reference. -/
import Derived.Test.YtmjpajaeffhdeaaL3a
import Derived.Test.YtmjpajaeffhdeaaL2a
namespace Go.Proofs.Ytmjpajaeffhdeaa.L1
open Go.RowKit Go.Proofs.YtmjpajaeffhdeaaW.PrintWords Go.Proofs.Ytmjpajaeffhdeaa.B
set_option linter.unusedVariables false
set_option linter.unusedSimpArgs false
attribute [local go_sem] mk_cell mk_frozen
def insOk (o a b c regs slots k n : Int) : Bool :=
  if 5 ≤ o ∧ o ≤ 12 then inB a 13 (regs - 1) && inB b 0 (regs - 1) && inB c 0 (regs - 1)
  else if c ≠ 0 then false
  else if o = 1 then inB a 13 (regs - 1) && inB b (-1000000000) 1000000000
  else if o = 2 ∨ o = 3 ∨ o = 4 then inB a 13 (regs - 1) && inB b 0 (regs - 1)
  else if o = 13 ∨ o = 14 then inB a 13 (regs - 1) && inB b 0 15
  else if o = 15 ∨ o = 16 then inB a 0 (regs - 1) && inB b (k + 1) n
  else if o = 17 then decide (a = 0) && inB b (k + 1) n
  else if o = 18 then inB a 0 (regs - 1) && inB b 1 100
  else if o = 19 then inB a 0 (slots - 1) && inB b 0 (regs - 1)
  else if o = 20 then inB a 13 (regs - 1) && inB b 0 (slots - 1)
  else false
def Ins.ok (x : Ins) (regs slots k n : Int) : Bool := insOk x.op x.a x.b x.c regs slots k n
section
variable (w : World)
set_option maxRecDepth 100000 in
set_option maxHeartbeats 4000000 in
theorem spec_goodIns (o a b c regs slots : Int) (B0 B1 B2 : Value) (k n : Int) (hr : 13 ≤ regs ∧ regs ≤ 1000) (hs : 0 ≤ slots ∧ slots ≤ 100) (hk : 0 ≤ k ∧ k ≤ 20000) : Calls Try.prog 107 #[.agg #[.int .i64 regs, .int .i64 slots, B0, B1, B2], .agg #[.int .i64 o, .int .i64 a, .int .i64 b, .int .i64 c], .int .i64 k, .int .i64 n] w fun e w' => e = .returned (.bool (insOk o a b c regs slots k n)) ∧ Below w.heap.size w w' := by
  have q0 : IntKind.i64.wrap (regs - 1) = regs - 1 := IntWalk.i64_in _ (by omega)
  have q1 : IntKind.i64.wrap (slots - 1) = slots - 1 := IntWalk.i64_in _ (by omega)
  have q2 : IntKind.i64.wrap (k + 1) = k + 1 := IntWalk.i64_in _ (by omega)
  by_cases h1 : 5 ≤ o ∧ o ≤ 12
  · have p0 : decide (5 ≤ o) = true := by simp; omega
    have p1 : decide (o ≤ 12) = true := by simp; omega
    have HL := Aside0.mk (show insOk o a b c regs slots k n = (inB a 13 (regs - 1) && inB b 0 (regs - 1) && inB c 0 (regs - 1)) by unfold insOk; rw [if_pos h1])
    clear h1
    go_enter Try.func107, Try.ntmps107
    go_wp2_with (go_at_call 56; refine (spec_l1In _ _ _ _).mono ?_; rintro e w' ⟨rfl, rfl⟩)
    all_goals (go_ret; exact ⟨by rw [HL.out]; simp [*], below_alloc (below_alloc (Below.refl _ _) _) _⟩)
  by_cases hc : c = 0
  · subst hc
    by_cases e1 : o = 1
    · subst e1
      have HL := Aside0.mk (show insOk 1 a b 0 regs slots k n = (inB a 13 (regs - 1) && inB b (-1000000000) 1000000000) from rfl)
      clear h1
      go_enter Try.func107, Try.ntmps107
      go_wp2_with (go_at_call 56; refine (spec_l1In _ _ _ _).mono ?_; rintro e w' ⟨rfl, rfl⟩)
      all_goals (go_ret; exact ⟨by rw [HL.out]; simp [*], below_alloc (below_alloc (Below.refl _ _) _) _⟩)
    by_cases e2 : o = 2
    · subst e2
      have HL := Aside0.mk (show insOk 2 a b 0 regs slots k n = (inB a 13 (regs - 1) && inB b 0 (regs - 1)) from rfl)
      clear h1 e1
      go_enter Try.func107, Try.ntmps107
      go_wp2_with (go_at_call 56; refine (spec_l1In _ _ _ _).mono ?_; rintro e w' ⟨rfl, rfl⟩)
      all_goals (go_ret; exact ⟨by rw [HL.out]; simp [*], below_alloc (below_alloc (Below.refl _ _) _) _⟩)
    by_cases e3 : o = 3
    · subst e3
      have HL := Aside0.mk (show insOk 3 a b 0 regs slots k n = (inB a 13 (regs - 1) && inB b 0 (regs - 1)) from rfl)
      clear h1 e1 e2
      go_enter Try.func107, Try.ntmps107
      go_wp2_with (go_at_call 56; refine (spec_l1In _ _ _ _).mono ?_; rintro e w' ⟨rfl, rfl⟩)
      all_goals (go_ret; exact ⟨by rw [HL.out]; simp [*], below_alloc (below_alloc (Below.refl _ _) _) _⟩)
    by_cases e4 : o = 4
    · subst e4
      have HL := Aside0.mk (show insOk 4 a b 0 regs slots k n = (inB a 13 (regs - 1) && inB b 0 (regs - 1)) from rfl)
      clear h1 e1 e2 e3
      go_enter Try.func107, Try.ntmps107
      go_wp2_with (go_at_call 56; refine (spec_l1In _ _ _ _).mono ?_; rintro e w' ⟨rfl, rfl⟩)
      all_goals (go_ret; exact ⟨by rw [HL.out]; simp [*], below_alloc (below_alloc (Below.refl _ _) _) _⟩)
    by_cases e13 : o = 13
    · subst e13
      have HL := Aside0.mk (show insOk 13 a b 0 regs slots k n = (inB a 13 (regs - 1) && inB b 0 15) from rfl)
      clear h1 e1 e2 e3 e4
      go_enter Try.func107, Try.ntmps107
      go_wp2_with (go_at_call 56; refine (spec_l1In _ _ _ _).mono ?_; rintro e w' ⟨rfl, rfl⟩)
      all_goals (go_ret; exact ⟨by rw [HL.out]; simp [*], below_alloc (below_alloc (Below.refl _ _) _) _⟩)
    by_cases e14 : o = 14
    · subst e14
      have HL := Aside0.mk (show insOk 14 a b 0 regs slots k n = (inB a 13 (regs - 1) && inB b 0 15) from rfl)
      clear h1 e1 e2 e3 e4 e13
      go_enter Try.func107, Try.ntmps107
      go_wp2_with (go_at_call 56; refine (spec_l1In _ _ _ _).mono ?_; rintro e w' ⟨rfl, rfl⟩)
      all_goals (go_ret; exact ⟨by rw [HL.out]; simp [*], below_alloc (below_alloc (Below.refl _ _) _) _⟩)
    by_cases e15 : o = 15
    · subst e15
      have HL := Aside0.mk (show insOk 15 a b 0 regs slots k n = (inB a 0 (regs - 1) && inB b (k + 1) n) from rfl)
      clear h1 e1 e2 e3 e4 e13 e14
      go_enter Try.func107, Try.ntmps107
      go_wp2_with (go_at_call 56; refine (spec_l1In _ _ _ _).mono ?_; rintro e w' ⟨rfl, rfl⟩)
      all_goals (go_ret; exact ⟨by rw [HL.out]; simp [*], below_alloc (below_alloc (Below.refl _ _) _) _⟩)
    by_cases e16 : o = 16
    · subst e16
      have HL := Aside0.mk (show insOk 16 a b 0 regs slots k n = (inB a 0 (regs - 1) && inB b (k + 1) n) from rfl)
      clear h1 e1 e2 e3 e4 e13 e14 e15
      go_enter Try.func107, Try.ntmps107
      go_wp2_with (go_at_call 56; refine (spec_l1In _ _ _ _).mono ?_; rintro e w' ⟨rfl, rfl⟩)
      all_goals (go_ret; exact ⟨by rw [HL.out]; simp [*], below_alloc (below_alloc (Below.refl _ _) _) _⟩)
    by_cases e17 : o = 17
    · subst e17
      have HL := Aside0.mk (show insOk 17 a b 0 regs slots k n = (decide (a = 0) && inB b (k + 1) n) from rfl)
      clear h1 e1 e2 e3 e4 e13 e14 e15 e16
      go_enter Try.func107, Try.ntmps107
      go_wp2_with (go_at_call 56; refine (spec_l1In _ _ _ _).mono ?_; rintro e w' ⟨rfl, rfl⟩)
      all_goals (go_ret; exact ⟨by rw [HL.out]; simp [*], below_alloc (below_alloc (Below.refl _ _) _) _⟩)
    by_cases e18 : o = 18
    · subst e18
      have HL := Aside0.mk (show insOk 18 a b 0 regs slots k n = (inB a 0 (regs - 1) && inB b 1 100) from rfl)
      clear h1 e1 e2 e3 e4 e13 e14 e15 e16 e17
      go_enter Try.func107, Try.ntmps107
      go_wp2_with (go_at_call 56; refine (spec_l1In _ _ _ _).mono ?_; rintro e w' ⟨rfl, rfl⟩)
      all_goals (go_ret; exact ⟨by rw [HL.out]; simp [*], below_alloc (below_alloc (Below.refl _ _) _) _⟩)
    by_cases e19 : o = 19
    · subst e19
      have HL := Aside0.mk (show insOk 19 a b 0 regs slots k n = (inB a 0 (slots - 1) && inB b 0 (regs - 1)) from rfl)
      clear h1 e1 e2 e3 e4 e13 e14 e15 e16 e17 e18
      go_enter Try.func107, Try.ntmps107
      go_wp2_with (go_at_call 56; refine (spec_l1In _ _ _ _).mono ?_; rintro e w' ⟨rfl, rfl⟩)
      all_goals (go_ret; exact ⟨by rw [HL.out]; simp [*], below_alloc (below_alloc (Below.refl _ _) _) _⟩)
    by_cases e20 : o = 20
    · subst e20
      have HL := Aside0.mk (show insOk 20 a b 0 regs slots k n = (inB a 13 (regs - 1) && inB b 0 (slots - 1)) from rfl)
      clear h1 e1 e2 e3 e4 e13 e14 e15 e16 e17 e18 e19
      go_enter Try.func107, Try.ntmps107
      go_wp2_with (go_at_call 56; refine (spec_l1In _ _ _ _).mono ?_; rintro e w' ⟨rfl, rfl⟩)
      all_goals (go_ret; exact ⟨by rw [HL.out]; simp [*], below_alloc (below_alloc (Below.refl _ _) _) _⟩)
    have HL := Aside0.mk (show insOk o a b 0 regs slots k n = false by unfold insOk; rw [if_neg h1, if_neg (by simp)]; simp [e1, e2, e3, e4, e13, e14, e15, e16, e17, e18, e19, e20])
    have f1 : (o == 1) = false := by simp [e1]
    have g1 : decide (o = 1) = false := by simp [e1]
    have f2 : (o == 2) = false := by simp [e2]
    have g2 : decide (o = 2) = false := by simp [e2]
    have f3 : (o == 3) = false := by simp [e3]
    have g3 : decide (o = 3) = false := by simp [e3]
    have f4 : (o == 4) = false := by simp [e4]
    have g4 : decide (o = 4) = false := by simp [e4]
    have f13 : (o == 13) = false := by simp [e13]
    have g13 : decide (o = 13) = false := by simp [e13]
    have f14 : (o == 14) = false := by simp [e14]
    have g14 : decide (o = 14) = false := by simp [e14]
    have f15 : (o == 15) = false := by simp [e15]
    have g15 : decide (o = 15) = false := by simp [e15]
    have f16 : (o == 16) = false := by simp [e16]
    have g16 : decide (o = 16) = false := by simp [e16]
    have f17 : (o == 17) = false := by simp [e17]
    have g17 : decide (o = 17) = false := by simp [e17]
    have f18 : (o == 18) = false := by simp [e18]
    have g18 : decide (o = 18) = false := by simp [e18]
    have f19 : (o == 19) = false := by simp [e19]
    have g19 : decide (o = 19) = false := by simp [e19]
    have f20 : (o == 20) = false := by simp [e20]
    have g20 : decide (o = 20) = false := by simp [e20]
    rcases Int.lt_or_le o 5 with h5 | h5
    · have p0 : decide (5 ≤ o) = false := by simp; omega
      clear h1 h5 e1 e2 e3 e4 e13 e14 e15 e16 e17 e18 e19 e20
      go_enter Try.func107, Try.ntmps107
      go_wp2_with (go_at_call 56; refine (spec_l1In _ _ _ _).mono ?_; rintro e w' ⟨rfl, rfl⟩)
      all_goals (go_ret; exact ⟨by rw [HL.out]; simp [*], below_alloc (below_alloc (Below.refl _ _) _) _⟩)
    · have p0 : decide (5 ≤ o) = true := by simp; omega
      have p1 : decide (o ≤ 12) = false := by simp; omega
      clear h1 h5 e1 e2 e3 e4 e13 e14 e15 e16 e17 e18 e19 e20
      go_enter Try.func107, Try.ntmps107
      go_wp2_with (go_at_call 56; refine (spec_l1In _ _ _ _).mono ?_; rintro e w' ⟨rfl, rfl⟩)
      all_goals (go_ret; exact ⟨by rw [HL.out]; simp [*], below_alloc (below_alloc (Below.refl _ _) _) _⟩)
  · have f0 : (c == 0) = false := by simp [hc]
    have g0 : decide (c = 0) = false := by simp [hc]
    have HL := Aside0.mk (show insOk o a b c regs slots k n = false by unfold insOk; rw [if_neg h1, if_pos hc])
    rcases Int.lt_or_le o 5 with h5 | h5
    · have p0 : decide (5 ≤ o) = false := by simp; omega
      clear h1 h5 hc
      go_enter Try.func107, Try.ntmps107
      go_wp2_with (go_at_call 56; refine (spec_l1In _ _ _ _).mono ?_; rintro e w' ⟨rfl, rfl⟩)
      all_goals (go_ret; exact ⟨by rw [HL.out]; simp [*], below_alloc (below_alloc (Below.refl _ _) _) _⟩)
    · have p0 : decide (5 ≤ o) = true := by simp; omega
      have p1 : decide (o ≤ 12) = false := by simp; omega
      clear h1 h5 hc
      go_enter Try.func107, Try.ntmps107
      go_wp2_with (go_at_call 56; refine (spec_l1In _ _ _ _).mono ?_; rintro e w' ⟨rfl, rfl⟩)
      all_goals (go_ret; exact ⟨by rw [HL.out]; simp [*], below_alloc (below_alloc (Below.refl _ _) _) _⟩)
end
end Go.Proofs.Ytmjpajaeffhdeaa.L1
