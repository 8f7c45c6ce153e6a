/- An instruction is good, as the program tells it. -/
import Derived.Test.YtlhpbpkefkabgaaGreatQS9
namespace Go.Proofs.YtlhpbpkefkabgaaGreat.L1
open Go.RowKit Go.Proofs.YtlhpbpkefkabgaaGreatW.PrintWords Go.Proofs.YtlhpbpkefkabgaaGreat.B
set_option linter.unusedVariables false
set_option linter.unusedSimpArgs false
attribute [local go_sem] mk_cell mk_frozen
theorem insOk_named {o a b c regs slots k n : Int} (h : insOk o a b c regs slots k n = true) : ∀ r, r ∈ named o a b c → inB r 0 (regs - 1) = true := by
  unfold insOk at h
  unfold named
  intro r hr
  (repeat' split at h) <;> (repeat' split at hr) <;> simp_all [inB] <;> omega
theorem insOk_bad {o a b c regs slots k n r : Int} (hm : r ∈ named o a b c) (h : inB r 0 (regs - 1) = false) : insOk o a b c regs slots k n = false := by
  cases hh : insOk o a b c regs slots k n with
  | false => rfl
  | true => rw [insOk_named hh r hm] at h; cases h
section
variable (w : World)
set_option maxRecDepth 100000 in
set_option maxHeartbeats 4000000 in
theorem impl_good (o a b c regs slots : Int) (B0 B1 B2 : Value) (k n : Int) (hr : 13 ≤ regs ∧ regs ≤ 1000) (hs : 0 ≤ slots ∧ slots ≤ 100) (hk : 0 ≤ k ∧ k ≤ 20000) : Calls Tryz.prog 114 #[.agg #[.int .i64 o, .int .i64 a, .int .i64 b, .int .i64 c], .int .i64 k, .int .i64 n, .agg #[.int .i64 regs, .int .i64 slots, B0, B1, B2]] w fun e w' => e = .returned (.bool (insOk o a b c regs slots k n)) ∧ Below w.heap.size w w' := by
  have q0 : IntKind.i64.wrap (regs - 1) = regs - 1 := IntWalk.i64_in _ (by omega)
  have q1 : IntKind.i64.wrap (slots - 1) = slots - 1 := IntWalk.i64_in _ (by omega)
  have q2 : IntKind.i64.wrap (k + 1) = k + 1 := IntWalk.i64_in _ (by omega)
  rcases Int.lt_or_le o 1 with h1 | h1
  · have p0 : decide (o < 1) = true := by simp; omega
    have HL := sA (show insOk o a b c regs slots k n = false by unfold insOk; rw [if_neg (by omega)]; split; rfl; (repeat' rw [if_neg (by omega)])); clear h1
    go_enter Tryz.func114, Tryz.ntmps114
    go_wp2
    go_ret
    exact ⟨by rw [HL.out]; rfl, bA (bA (Below.refl _ _) _) _⟩
  have p0 : decide (o < 1) = false := by simp; omega
  rcases Int.lt_or_le 20 o with h2 | h2
  · have p1 : decide (20 < o) = true := by simp; omega
    have HL := sA (show insOk o a b c regs slots k n = false by unfold insOk; rw [if_neg (by omega)]; split; rfl; (repeat' rw [if_neg (by omega)])); clear h1 h2
    go_enter Tryz.func114, Tryz.ntmps114
    go_wp2
    go_ret
    exact ⟨by rw [HL.out]; rfl, bA (bA (Below.refl _ _) _) _⟩
  have p1 : decide (20 < o) = false := by simp; omega
  rcases Classical.em (c = 0) with hc | hc
  rotate_left
  · have f0 : (c == 0) = false := by simp [hc]
    have g0 : decide (c = 0) = false := by simp [hc]
    have k0 : (c != 0) = true := by simp [hc]
    rcases Int.lt_or_le o 5 with h5 | h5
    · have p5 : decide (o < 5) = true := by simp; omega
      have HL := sA (show insOk o a b c regs slots k n = false by unfold insOk; rw [if_neg (by omega), if_pos hc]); clear h1 h2 h5 hc
      go_enter Tryz.func114, Tryz.ntmps114
      go_wp2
      go_ret
      exact ⟨by rw [HL.out]; rfl, bA (bA (Below.refl _ _) _) _⟩
    have p5 : decide (o < 5) = false := by simp; omega
    rcases Int.lt_or_le 12 o with h6 | h6
    · have p6 : decide (12 < o) = true := by simp; omega
      have HL := sA (show insOk o a b c regs slots k n = false by unfold insOk; rw [if_neg (by omega), if_pos hc]); clear h1 h2 h5 h6 hc
      go_enter Tryz.func114, Tryz.ntmps114
      go_wp2
      go_ret
      exact ⟨by rw [HL.out]; rfl, bA (bA (Below.refl _ _) _) _⟩
    have p6 : decide (12 < o) = false := by simp; omega
    replace h1 := h5; replace h2 := h6; clear h5 h6 hc
    have HB := sA (bA (bA (Below.refl w.heap.size w) (.cells #[.int .i64 o, .int .i64 a, .int .i64 b, .int .i64 c] 99)) (.cells #[.int .i64 regs, .int .i64 slots, B0, B1, B2] 41))
    have HAx := sA ((al_old (by simp only [al_size]; omega)).trans (al_new w (.cells #[.int .i64 o, .int .i64 a, .int .i64 b, .int .i64 c] 99)) : ((w.alloc (.cells #[.int .i64 o, .int .i64 a, .int .i64 b, .int .i64 c] 99)).alloc (.cells #[.int .i64 regs, .int .i64 slots, B0, B1, B2] 41)).heap[w.heap.size]? = _)
    have hAc := al_new (w.alloc (.cells #[.int .i64 o, .int .i64 a, .int .i64 b, .int .i64 c] 99)) (.cells #[.int .i64 regs, .int .i64 slots, B0, B1, B2] 41); rw [al_size] at hAc; have HAc := sA hAc; clear hAc
    have H12 := sA (And.intro h1 h2); clear h1 h2
    go_enter Tryz.func114, Tryz.ntmps114
    go_wp2_with fail
    go_at_call 154
    refine (impl_registers _ o a b c).mono ?_
    rintro e w1 ⟨⟨u, rfl, hu⟩, hb⟩
    have HB1 := sA (bC HB.out hb); have HAx1 := sA (bB HAx.out hb); have HAc1 := sA (bB HAc.out hb); clear hb HB HAx HAc
    obtain ⟨R, rc, rfl, hR⟩ := hu
    generalize hX : named o a b c = xs at hR
    have HX := sA hX; have hml := hR.2.1; have HR := sA hR; clear hR hX
    obtain ⟨b1, b2⟩ := lay0 HAc1.out
    go_wp2_with fail
    go_loopg [37] (xs.length + 1) (fun q v37 wr => ∃ j, q = xs.length + 1 - j ∧ j ≤ xs.length ∧ v37 = .int .i64 j ∧ wr = w1 ∧ Aside0 (∀ i, i < j → inB (xs.getD i 0) 0 (regs - 1) = true))
    case atStart => exact ⟨0, by omega, by omega, rfl, rfl, ⟨fun j hj => absurd hj (Nat.not_lt_zero _)⟩⟩
    case round =>
      obtain ⟨j, rfl, hj, rfl, rfl, HP⟩ := hrel
      by_cases hlt : j < xs.length
      · obtain ⟨ad, e0, t0, t1⟩ := Kd.flat_cells (d := kInt) rfl HR.out 0 j hlt
        cases e0
        have z3 := t0 _ rfl; simp only [Nat.mul_one] at z3
        clear t0 t1
        have HM := sA (show xs.getD j 0 ∈ xs by rw [List.getD_eq_getElem?_getD, List.getElem?_eq_getElem hlt]; exact List.getElem_mem hlt)
        generalize hy : xs.getD j 0 = y at z3 HM
        have HY := sA hy; clear hy
        go_wp2_with fail
        go_at_call 79
        refine (impl_within _ _ _ _).mono ?_
        rintro e w' ⟨rfl, rfl⟩
        cases hi : inB y 0 (regs - 1) with
        | false =>
          have HL := sA (show insOk o a b c regs slots k n = false from insOk_bad (HX.out ▸ HM.out) hi); clear hi
          go_wp2
          go_ret
          exact ⟨by rw [HL.out]; rfl, HB1.out⟩
        | true =>
          have HP1 := sA (show ∀ i, i < j + 1 → inB (xs.getD i 0) 0 (regs - 1) = true from fun i hi2 => by
            rcases Nat.lt_or_ge i j with h | h
            · exact HP.out i h
            · rw [show i = j by omega, HY.out]; exact hi); clear hi
          go_wp2
          go_roundg (xs.length + 1 - (j + 1))
          case measure => omega
          case rel => exact ⟨j + 1, rfl, hlt, by go_num, rfl, HP1⟩
      · have hall : ∀ r, r ∈ named o a b c → inB r 0 (regs - 1) = true := by
          intro r hm
          rw [HX.out] at hm
          obtain ⟨i, hi, rfl⟩ := List.getElem_of_mem hm
          have := HP.out i (by omega)
          rw [List.getD_eq_getElem?_getD, List.getElem?_eq_getElem hi] at this
          exact this
        have HALL := sA hall; clear hall HP HX HR
        clear b1 b2
        obtain ⟨a1, a2⟩ := lay0 HAx1.out
        go_wp2_with fail
        clear a1 a2
        go_at_call 155
        refine (impl_writes _ o a b c).mono ?_
        rintro e w2 ⟨rfl, hb⟩
        have HB2 := sA (bC HB1.out hb); have HAx2 := sA (bB HAx1.out hb); have HAc2 := sA (bB HAc1.out hb); clear hb HB1 HAx1 HAc1
        obtain ⟨a1, a2⟩ := lay0 HAx2.out
        obtain ⟨b1, b2⟩ := lay0 HAc2.out
        have HK := sA (And.intro hr (And.intro hs hk)); clear hr hs hk
        rcases (show o = 5 ∨ o = 6 ∨ o = 7 ∨ o = 8 ∨ o = 9 ∨ o = 10 ∨ o = 11 ∨ o = 12 by have := H12.out; omega) with rfl | rfl | rfl | rfl | rfl | rfl | rfl | rfl
        · have d0 : decide ((5 : Int) ≤ 14 ∨ (5 : Int) = 20) = true := by decide
          rw [d0]; clear d0
          have ha := HALL.out a (by simp [named]); have hb0 := HALL.out b (by simp [named]); have hc0 := HALL.out c (by simp [named]); clear HALL
          rcases Int.lt_or_le a 13 with h13 | h13
          · have p13 : decide (a < 13) = true := by simp; omega
            have HL := sA (show insOk 5 a b c regs slots k n = false by have e : inB a 13 (regs - 1) = false := by { unfold inB; rw [decide_eq_false (show ¬ 13 ≤ a by omega)]; rfl }; show (inB a 13 (regs - 1) && inB b 0 (regs - 1) && inB c 0 (regs - 1)) = false; rw [e]; rfl)
            clear h13
            go_wp2
            go_ret
            exact ⟨by rw [HL.out]; rfl, HB2.out⟩
          · have p13 : decide (a < 13) = false := by simp; omega
            have h13a : inB a 13 (regs - 1) = true := (inB_iff _ _ _).2 ⟨h13, ((inB_iff _ _ _).1 ha).2⟩
            have HL := sA (show insOk 5 a b c regs slots k n = true by show (inB a 13 (regs - 1) && inB b 0 (regs - 1) && inB c 0 (regs - 1)) = _; rw [h13a, hb0, hc0]; rfl)
            clear h13 h13a ha hb0 hc0
            go_wp2
            go_ret
            exact ⟨by rw [HL.out]; rfl, HB2.out⟩
        · have d0 : decide ((6 : Int) ≤ 14 ∨ (6 : Int) = 20) = true := by decide
          rw [d0]; clear d0
          have ha := HALL.out a (by simp [named]); have hb0 := HALL.out b (by simp [named]); have hc0 := HALL.out c (by simp [named]); clear HALL
          rcases Int.lt_or_le a 13 with h13 | h13
          · have p13 : decide (a < 13) = true := by simp; omega
            have HL := sA (show insOk 6 a b c regs slots k n = false by have e : inB a 13 (regs - 1) = false := by { unfold inB; rw [decide_eq_false (show ¬ 13 ≤ a by omega)]; rfl }; show (inB a 13 (regs - 1) && inB b 0 (regs - 1) && inB c 0 (regs - 1)) = false; rw [e]; rfl)
            clear h13
            go_wp2
            go_ret
            exact ⟨by rw [HL.out]; rfl, HB2.out⟩
          · have p13 : decide (a < 13) = false := by simp; omega
            have h13a : inB a 13 (regs - 1) = true := (inB_iff _ _ _).2 ⟨h13, ((inB_iff _ _ _).1 ha).2⟩
            have HL := sA (show insOk 6 a b c regs slots k n = true by show (inB a 13 (regs - 1) && inB b 0 (regs - 1) && inB c 0 (regs - 1)) = _; rw [h13a, hb0, hc0]; rfl)
            clear h13 h13a ha hb0 hc0
            go_wp2
            go_ret
            exact ⟨by rw [HL.out]; rfl, HB2.out⟩
        · have d0 : decide ((7 : Int) ≤ 14 ∨ (7 : Int) = 20) = true := by decide
          rw [d0]; clear d0
          have ha := HALL.out a (by simp [named]); have hb0 := HALL.out b (by simp [named]); have hc0 := HALL.out c (by simp [named]); clear HALL
          rcases Int.lt_or_le a 13 with h13 | h13
          · have p13 : decide (a < 13) = true := by simp; omega
            have HL := sA (show insOk 7 a b c regs slots k n = false by have e : inB a 13 (regs - 1) = false := by { unfold inB; rw [decide_eq_false (show ¬ 13 ≤ a by omega)]; rfl }; show (inB a 13 (regs - 1) && inB b 0 (regs - 1) && inB c 0 (regs - 1)) = false; rw [e]; rfl)
            clear h13
            go_wp2
            go_ret
            exact ⟨by rw [HL.out]; rfl, HB2.out⟩
          · have p13 : decide (a < 13) = false := by simp; omega
            have h13a : inB a 13 (regs - 1) = true := (inB_iff _ _ _).2 ⟨h13, ((inB_iff _ _ _).1 ha).2⟩
            have HL := sA (show insOk 7 a b c regs slots k n = true by show (inB a 13 (regs - 1) && inB b 0 (regs - 1) && inB c 0 (regs - 1)) = _; rw [h13a, hb0, hc0]; rfl)
            clear h13 h13a ha hb0 hc0
            go_wp2
            go_ret
            exact ⟨by rw [HL.out]; rfl, HB2.out⟩
        · have d0 : decide ((8 : Int) ≤ 14 ∨ (8 : Int) = 20) = true := by decide
          rw [d0]; clear d0
          have ha := HALL.out a (by simp [named]); have hb0 := HALL.out b (by simp [named]); have hc0 := HALL.out c (by simp [named]); clear HALL
          rcases Int.lt_or_le a 13 with h13 | h13
          · have p13 : decide (a < 13) = true := by simp; omega
            have HL := sA (show insOk 8 a b c regs slots k n = false by have e : inB a 13 (regs - 1) = false := by { unfold inB; rw [decide_eq_false (show ¬ 13 ≤ a by omega)]; rfl }; show (inB a 13 (regs - 1) && inB b 0 (regs - 1) && inB c 0 (regs - 1)) = false; rw [e]; rfl)
            clear h13
            go_wp2
            go_ret
            exact ⟨by rw [HL.out]; rfl, HB2.out⟩
          · have p13 : decide (a < 13) = false := by simp; omega
            have h13a : inB a 13 (regs - 1) = true := (inB_iff _ _ _).2 ⟨h13, ((inB_iff _ _ _).1 ha).2⟩
            have HL := sA (show insOk 8 a b c regs slots k n = true by show (inB a 13 (regs - 1) && inB b 0 (regs - 1) && inB c 0 (regs - 1)) = _; rw [h13a, hb0, hc0]; rfl)
            clear h13 h13a ha hb0 hc0
            go_wp2
            go_ret
            exact ⟨by rw [HL.out]; rfl, HB2.out⟩
        · have d0 : decide ((9 : Int) ≤ 14 ∨ (9 : Int) = 20) = true := by decide
          rw [d0]; clear d0
          have ha := HALL.out a (by simp [named]); have hb0 := HALL.out b (by simp [named]); have hc0 := HALL.out c (by simp [named]); clear HALL
          rcases Int.lt_or_le a 13 with h13 | h13
          · have p13 : decide (a < 13) = true := by simp; omega
            have HL := sA (show insOk 9 a b c regs slots k n = false by have e : inB a 13 (regs - 1) = false := by { unfold inB; rw [decide_eq_false (show ¬ 13 ≤ a by omega)]; rfl }; show (inB a 13 (regs - 1) && inB b 0 (regs - 1) && inB c 0 (regs - 1)) = false; rw [e]; rfl)
            clear h13
            go_wp2
            go_ret
            exact ⟨by rw [HL.out]; rfl, HB2.out⟩
          · have p13 : decide (a < 13) = false := by simp; omega
            have h13a : inB a 13 (regs - 1) = true := (inB_iff _ _ _).2 ⟨h13, ((inB_iff _ _ _).1 ha).2⟩
            have HL := sA (show insOk 9 a b c regs slots k n = true by show (inB a 13 (regs - 1) && inB b 0 (regs - 1) && inB c 0 (regs - 1)) = _; rw [h13a, hb0, hc0]; rfl)
            clear h13 h13a ha hb0 hc0
            go_wp2
            go_ret
            exact ⟨by rw [HL.out]; rfl, HB2.out⟩
        · have d0 : decide ((10 : Int) ≤ 14 ∨ (10 : Int) = 20) = true := by decide
          rw [d0]; clear d0
          have ha := HALL.out a (by simp [named]); have hb0 := HALL.out b (by simp [named]); have hc0 := HALL.out c (by simp [named]); clear HALL
          rcases Int.lt_or_le a 13 with h13 | h13
          · have p13 : decide (a < 13) = true := by simp; omega
            have HL := sA (show insOk 10 a b c regs slots k n = false by have e : inB a 13 (regs - 1) = false := by { unfold inB; rw [decide_eq_false (show ¬ 13 ≤ a by omega)]; rfl }; show (inB a 13 (regs - 1) && inB b 0 (regs - 1) && inB c 0 (regs - 1)) = false; rw [e]; rfl)
            clear h13
            go_wp2
            go_ret
            exact ⟨by rw [HL.out]; rfl, HB2.out⟩
          · have p13 : decide (a < 13) = false := by simp; omega
            have h13a : inB a 13 (regs - 1) = true := (inB_iff _ _ _).2 ⟨h13, ((inB_iff _ _ _).1 ha).2⟩
            have HL := sA (show insOk 10 a b c regs slots k n = true by show (inB a 13 (regs - 1) && inB b 0 (regs - 1) && inB c 0 (regs - 1)) = _; rw [h13a, hb0, hc0]; rfl)
            clear h13 h13a ha hb0 hc0
            go_wp2
            go_ret
            exact ⟨by rw [HL.out]; rfl, HB2.out⟩
        · have d0 : decide ((11 : Int) ≤ 14 ∨ (11 : Int) = 20) = true := by decide
          rw [d0]; clear d0
          have ha := HALL.out a (by simp [named]); have hb0 := HALL.out b (by simp [named]); have hc0 := HALL.out c (by simp [named]); clear HALL
          rcases Int.lt_or_le a 13 with h13 | h13
          · have p13 : decide (a < 13) = true := by simp; omega
            have HL := sA (show insOk 11 a b c regs slots k n = false by have e : inB a 13 (regs - 1) = false := by { unfold inB; rw [decide_eq_false (show ¬ 13 ≤ a by omega)]; rfl }; show (inB a 13 (regs - 1) && inB b 0 (regs - 1) && inB c 0 (regs - 1)) = false; rw [e]; rfl)
            clear h13
            go_wp2
            go_ret
            exact ⟨by rw [HL.out]; rfl, HB2.out⟩
          · have p13 : decide (a < 13) = false := by simp; omega
            have h13a : inB a 13 (regs - 1) = true := (inB_iff _ _ _).2 ⟨h13, ((inB_iff _ _ _).1 ha).2⟩
            have HL := sA (show insOk 11 a b c regs slots k n = true by show (inB a 13 (regs - 1) && inB b 0 (regs - 1) && inB c 0 (regs - 1)) = _; rw [h13a, hb0, hc0]; rfl)
            clear h13 h13a ha hb0 hc0
            go_wp2
            go_ret
            exact ⟨by rw [HL.out]; rfl, HB2.out⟩
        · have d0 : decide ((12 : Int) ≤ 14 ∨ (12 : Int) = 20) = true := by decide
          rw [d0]; clear d0
          have ha := HALL.out a (by simp [named]); have hb0 := HALL.out b (by simp [named]); have hc0 := HALL.out c (by simp [named]); clear HALL
          rcases Int.lt_or_le a 13 with h13 | h13
          · have p13 : decide (a < 13) = true := by simp; omega
            have HL := sA (show insOk 12 a b c regs slots k n = false by have e : inB a 13 (regs - 1) = false := by { unfold inB; rw [decide_eq_false (show ¬ 13 ≤ a by omega)]; rfl }; show (inB a 13 (regs - 1) && inB b 0 (regs - 1) && inB c 0 (regs - 1)) = false; rw [e]; rfl)
            clear h13
            go_wp2
            go_ret
            exact ⟨by rw [HL.out]; rfl, HB2.out⟩
          · have p13 : decide (a < 13) = false := by simp; omega
            have h13a : inB a 13 (regs - 1) = true := (inB_iff _ _ _).2 ⟨h13, ((inB_iff _ _ _).1 ha).2⟩
            have HL := sA (show insOk 12 a b c regs slots k n = true by show (inB a 13 (regs - 1) && inB b 0 (regs - 1) && inB c 0 (regs - 1)) = _; rw [h13a, hb0, hc0]; rfl)
            clear h13 h13a ha hb0 hc0
            go_wp2
            go_ret
            exact ⟨by rw [HL.out]; rfl, HB2.out⟩
  · subst hc
    have HB := sA (bA (bA (Below.refl w.heap.size w) (.cells #[.int .i64 o, .int .i64 a, .int .i64 b, .int .i64 0] 99)) (.cells #[.int .i64 regs, .int .i64 slots, B0, B1, B2] 41))
    have HAx := sA ((al_old (by simp only [al_size]; omega)).trans (al_new w (.cells #[.int .i64 o, .int .i64 a, .int .i64 b, .int .i64 0] 99)) : ((w.alloc (.cells #[.int .i64 o, .int .i64 a, .int .i64 b, .int .i64 0] 99)).alloc (.cells #[.int .i64 regs, .int .i64 slots, B0, B1, B2] 41)).heap[w.heap.size]? = _)
    have hAc := al_new (w.alloc (.cells #[.int .i64 o, .int .i64 a, .int .i64 b, .int .i64 0] 99)) (.cells #[.int .i64 regs, .int .i64 slots, B0, B1, B2] 41); rw [al_size] at hAc; have HAc := sA hAc; clear hAc
    have H12 := sA (And.intro h1 h2); clear h1 h2
    go_enter Tryz.func114, Tryz.ntmps114
    go_wp2_with fail
    go_at_call 154
    refine (impl_registers _ o a b 0).mono ?_
    rintro e w1 ⟨⟨u, rfl, hu⟩, hb⟩
    have HB1 := sA (bC HB.out hb); have HAx1 := sA (bB HAx.out hb); have HAc1 := sA (bB HAc.out hb); clear hb HB HAx HAc
    obtain ⟨R, rc, rfl, hR⟩ := hu
    generalize hX : named o a b 0 = xs at hR
    have HX := sA hX; have hml := hR.2.1; have HR := sA hR; clear hR hX
    obtain ⟨b1, b2⟩ := lay0 HAc1.out
    go_wp2_with fail
    go_loopg [37] (xs.length + 1) (fun q v37 wr => ∃ j, q = xs.length + 1 - j ∧ j ≤ xs.length ∧ v37 = .int .i64 j ∧ wr = w1 ∧ Aside0 (∀ i, i < j → inB (xs.getD i 0) 0 (regs - 1) = true))
    case atStart => exact ⟨0, by omega, by omega, rfl, rfl, ⟨fun j hj => absurd hj (Nat.not_lt_zero _)⟩⟩
    case round =>
      obtain ⟨j, rfl, hj, rfl, rfl, HP⟩ := hrel
      by_cases hlt : j < xs.length
      · obtain ⟨ad, e0, t0, t1⟩ := Kd.flat_cells (d := kInt) rfl HR.out 0 j hlt
        cases e0
        have z3 := t0 _ rfl; simp only [Nat.mul_one] at z3
        clear t0 t1
        have HM := sA (show xs.getD j 0 ∈ xs by rw [List.getD_eq_getElem?_getD, List.getElem?_eq_getElem hlt]; exact List.getElem_mem hlt)
        generalize hy : xs.getD j 0 = y at z3 HM
        have HY := sA hy; clear hy
        go_wp2_with fail
        go_at_call 79
        refine (impl_within _ _ _ _).mono ?_
        rintro e w' ⟨rfl, rfl⟩
        cases hi : inB y 0 (regs - 1) with
        | false =>
          have HL := sA (show insOk o a b 0 regs slots k n = false from insOk_bad (HX.out ▸ HM.out) hi); clear hi
          go_wp2
          go_ret
          exact ⟨by rw [HL.out]; rfl, HB1.out⟩
        | true =>
          have HP1 := sA (show ∀ i, i < j + 1 → inB (xs.getD i 0) 0 (regs - 1) = true from fun i hi2 => by
            rcases Nat.lt_or_ge i j with h | h
            · exact HP.out i h
            · rw [show i = j by omega, HY.out]; exact hi); clear hi
          go_wp2
          go_roundg (xs.length + 1 - (j + 1))
          case measure => omega
          case rel => exact ⟨j + 1, rfl, hlt, by go_num, rfl, HP1⟩
      · have hall : ∀ r, r ∈ named o a b 0 → inB r 0 (regs - 1) = true := by
          intro r hm
          rw [HX.out] at hm
          obtain ⟨i, hi, rfl⟩ := List.getElem_of_mem hm
          have := HP.out i (by omega)
          rw [List.getD_eq_getElem?_getD, List.getElem?_eq_getElem hi] at this
          exact this
        have HALL := sA hall; clear hall HP HX HR
        clear b1 b2
        obtain ⟨a1, a2⟩ := lay0 HAx1.out
        go_wp2_with fail
        clear a1 a2
        go_at_call 155
        refine (impl_writes _ o a b 0).mono ?_
        rintro e w2 ⟨rfl, hb⟩
        have HB2 := sA (bC HB1.out hb); have HAx2 := sA (bB HAx1.out hb); have HAc2 := sA (bB HAc1.out hb); clear hb HB1 HAx1 HAc1
        obtain ⟨a1, a2⟩ := lay0 HAx2.out
        obtain ⟨b1, b2⟩ := lay0 HAc2.out
        have HK := sA (And.intro hr (And.intro hs hk)); clear hr hs hk
        rcases (show o = 1 ∨ o = 2 ∨ o = 3 ∨ o = 4 ∨ o = 5 ∨ o = 6 ∨ o = 7 ∨ o = 8 ∨ o = 9 ∨ o = 10 ∨ o = 11 ∨ o = 12 ∨ o = 13 ∨ o = 14 ∨ o = 15 ∨ o = 16 ∨ o = 17 ∨ o = 18 ∨ o = 19 ∨ o = 20 by have := H12.out; omega) with rfl | rfl | rfl | rfl | rfl | rfl | rfl | rfl | rfl | rfl | rfl | rfl | rfl | rfl | rfl | rfl | rfl | rfl | rfl | rfl
        · have d0 : decide ((1 : Int) ≤ 14 ∨ (1 : Int) = 20) = true := by decide
          rw [d0]; clear d0
          have ha := HALL.out a (by simp [named]); clear HALL
          rcases Int.lt_or_le a 13 with h13 | h13
          · have p13 : decide (a < 13) = true := by simp; omega
            have HL := sA (show insOk 1 a b 0 regs slots k n = false by have e : inB a 13 (regs - 1) = false := by { unfold inB; rw [decide_eq_false (show ¬ 13 ≤ a by omega)]; rfl }; show (inB a 13 (regs - 1) && inB b (-1000000000) 1000000000) = false; rw [e]; rfl)
            clear h13
            go_wp2
            go_ret
            exact ⟨by rw [HL.out]; rfl, HB2.out⟩
          · have p13 : decide (a < 13) = false := by simp; omega
            have h13a : inB a 13 (regs - 1) = true := (inB_iff _ _ _).2 ⟨h13, ((inB_iff _ _ _).1 ha).2⟩
            have HL := sA (show insOk 1 a b 0 regs slots k n = inB b (-1000000000) 1000000000 by show (inB a 13 (regs - 1) && inB b (-1000000000) 1000000000) = _; rw [h13a]; rfl)
            clear h13 h13a ha
            go_wp2_with (go_at_call 79; refine (impl_within _ _ _ _).mono ?_; rintro e w' ⟨rfl, rfl⟩)
            go_ret
            exact ⟨by rw [HL.out]; rfl, HB2.out⟩
        · have d0 : decide ((2 : Int) ≤ 14 ∨ (2 : Int) = 20) = true := by decide
          rw [d0]; clear d0
          have ha := HALL.out a (by simp [named]); have hb0 := HALL.out b (by simp [named]); clear HALL
          rcases Int.lt_or_le a 13 with h13 | h13
          · have p13 : decide (a < 13) = true := by simp; omega
            have HL := sA (show insOk 2 a b 0 regs slots k n = false by have e : inB a 13 (regs - 1) = false := by { unfold inB; rw [decide_eq_false (show ¬ 13 ≤ a by omega)]; rfl }; show (inB a 13 (regs - 1) && inB b 0 (regs - 1)) = false; rw [e]; rfl)
            clear h13
            go_wp2
            go_ret
            exact ⟨by rw [HL.out]; rfl, HB2.out⟩
          · have p13 : decide (a < 13) = false := by simp; omega
            have h13a : inB a 13 (regs - 1) = true := (inB_iff _ _ _).2 ⟨h13, ((inB_iff _ _ _).1 ha).2⟩
            have HL := sA (show insOk 2 a b 0 regs slots k n = true by show (inB a 13 (regs - 1) && inB b 0 (regs - 1)) = _; rw [h13a, hb0]; rfl)
            clear h13 h13a ha hb0
            go_wp2
            go_ret
            exact ⟨by rw [HL.out]; rfl, HB2.out⟩
        · have d0 : decide ((3 : Int) ≤ 14 ∨ (3 : Int) = 20) = true := by decide
          rw [d0]; clear d0
          have ha := HALL.out a (by simp [named]); have hb0 := HALL.out b (by simp [named]); clear HALL
          rcases Int.lt_or_le a 13 with h13 | h13
          · have p13 : decide (a < 13) = true := by simp; omega
            have HL := sA (show insOk 3 a b 0 regs slots k n = false by have e : inB a 13 (regs - 1) = false := by { unfold inB; rw [decide_eq_false (show ¬ 13 ≤ a by omega)]; rfl }; show (inB a 13 (regs - 1) && inB b 0 (regs - 1)) = false; rw [e]; rfl)
            clear h13
            go_wp2
            go_ret
            exact ⟨by rw [HL.out]; rfl, HB2.out⟩
          · have p13 : decide (a < 13) = false := by simp; omega
            have h13a : inB a 13 (regs - 1) = true := (inB_iff _ _ _).2 ⟨h13, ((inB_iff _ _ _).1 ha).2⟩
            have HL := sA (show insOk 3 a b 0 regs slots k n = true by show (inB a 13 (regs - 1) && inB b 0 (regs - 1)) = _; rw [h13a, hb0]; rfl)
            clear h13 h13a ha hb0
            go_wp2
            go_ret
            exact ⟨by rw [HL.out]; rfl, HB2.out⟩
        · have d0 : decide ((4 : Int) ≤ 14 ∨ (4 : Int) = 20) = true := by decide
          rw [d0]; clear d0
          have ha := HALL.out a (by simp [named]); have hb0 := HALL.out b (by simp [named]); clear HALL
          rcases Int.lt_or_le a 13 with h13 | h13
          · have p13 : decide (a < 13) = true := by simp; omega
            have HL := sA (show insOk 4 a b 0 regs slots k n = false by have e : inB a 13 (regs - 1) = false := by { unfold inB; rw [decide_eq_false (show ¬ 13 ≤ a by omega)]; rfl }; show (inB a 13 (regs - 1) && inB b 0 (regs - 1)) = false; rw [e]; rfl)
            clear h13
            go_wp2
            go_ret
            exact ⟨by rw [HL.out]; rfl, HB2.out⟩
          · have p13 : decide (a < 13) = false := by simp; omega
            have h13a : inB a 13 (regs - 1) = true := (inB_iff _ _ _).2 ⟨h13, ((inB_iff _ _ _).1 ha).2⟩
            have HL := sA (show insOk 4 a b 0 regs slots k n = true by show (inB a 13 (regs - 1) && inB b 0 (regs - 1)) = _; rw [h13a, hb0]; rfl)
            clear h13 h13a ha hb0
            go_wp2
            go_ret
            exact ⟨by rw [HL.out]; rfl, HB2.out⟩
        · have d0 : decide ((5 : Int) ≤ 14 ∨ (5 : Int) = 20) = true := by decide
          rw [d0]; clear d0
          have ha := HALL.out a (by simp [named]); have hb0 := HALL.out b (by simp [named]); have hc0 := HALL.out 0 (by simp [named]); clear HALL
          rcases Int.lt_or_le a 13 with h13 | h13
          · have p13 : decide (a < 13) = true := by simp; omega
            have HL := sA (show insOk 5 a b 0 regs slots k n = false by have e : inB a 13 (regs - 1) = false := by { unfold inB; rw [decide_eq_false (show ¬ 13 ≤ a by omega)]; rfl }; show (inB a 13 (regs - 1) && inB b 0 (regs - 1) && inB 0 0 (regs - 1)) = false; rw [e]; rfl)
            clear h13
            go_wp2
            go_ret
            exact ⟨by rw [HL.out]; rfl, HB2.out⟩
          · have p13 : decide (a < 13) = false := by simp; omega
            have h13a : inB a 13 (regs - 1) = true := (inB_iff _ _ _).2 ⟨h13, ((inB_iff _ _ _).1 ha).2⟩
            have HL := sA (show insOk 5 a b 0 regs slots k n = true by show (inB a 13 (regs - 1) && inB b 0 (regs - 1) && inB 0 0 (regs - 1)) = _; rw [h13a, hb0, hc0]; rfl)
            clear h13 h13a ha hb0 hc0
            go_wp2
            go_ret
            exact ⟨by rw [HL.out]; rfl, HB2.out⟩
        · have d0 : decide ((6 : Int) ≤ 14 ∨ (6 : Int) = 20) = true := by decide
          rw [d0]; clear d0
          have ha := HALL.out a (by simp [named]); have hb0 := HALL.out b (by simp [named]); have hc0 := HALL.out 0 (by simp [named]); clear HALL
          rcases Int.lt_or_le a 13 with h13 | h13
          · have p13 : decide (a < 13) = true := by simp; omega
            have HL := sA (show insOk 6 a b 0 regs slots k n = false by have e : inB a 13 (regs - 1) = false := by { unfold inB; rw [decide_eq_false (show ¬ 13 ≤ a by omega)]; rfl }; show (inB a 13 (regs - 1) && inB b 0 (regs - 1) && inB 0 0 (regs - 1)) = false; rw [e]; rfl)
            clear h13
            go_wp2
            go_ret
            exact ⟨by rw [HL.out]; rfl, HB2.out⟩
          · have p13 : decide (a < 13) = false := by simp; omega
            have h13a : inB a 13 (regs - 1) = true := (inB_iff _ _ _).2 ⟨h13, ((inB_iff _ _ _).1 ha).2⟩
            have HL := sA (show insOk 6 a b 0 regs slots k n = true by show (inB a 13 (regs - 1) && inB b 0 (regs - 1) && inB 0 0 (regs - 1)) = _; rw [h13a, hb0, hc0]; rfl)
            clear h13 h13a ha hb0 hc0
            go_wp2
            go_ret
            exact ⟨by rw [HL.out]; rfl, HB2.out⟩
        · have d0 : decide ((7 : Int) ≤ 14 ∨ (7 : Int) = 20) = true := by decide
          rw [d0]; clear d0
          have ha := HALL.out a (by simp [named]); have hb0 := HALL.out b (by simp [named]); have hc0 := HALL.out 0 (by simp [named]); clear HALL
          rcases Int.lt_or_le a 13 with h13 | h13
          · have p13 : decide (a < 13) = true := by simp; omega
            have HL := sA (show insOk 7 a b 0 regs slots k n = false by have e : inB a 13 (regs - 1) = false := by { unfold inB; rw [decide_eq_false (show ¬ 13 ≤ a by omega)]; rfl }; show (inB a 13 (regs - 1) && inB b 0 (regs - 1) && inB 0 0 (regs - 1)) = false; rw [e]; rfl)
            clear h13
            go_wp2
            go_ret
            exact ⟨by rw [HL.out]; rfl, HB2.out⟩
          · have p13 : decide (a < 13) = false := by simp; omega
            have h13a : inB a 13 (regs - 1) = true := (inB_iff _ _ _).2 ⟨h13, ((inB_iff _ _ _).1 ha).2⟩
            have HL := sA (show insOk 7 a b 0 regs slots k n = true by show (inB a 13 (regs - 1) && inB b 0 (regs - 1) && inB 0 0 (regs - 1)) = _; rw [h13a, hb0, hc0]; rfl)
            clear h13 h13a ha hb0 hc0
            go_wp2
            go_ret
            exact ⟨by rw [HL.out]; rfl, HB2.out⟩
        · have d0 : decide ((8 : Int) ≤ 14 ∨ (8 : Int) = 20) = true := by decide
          rw [d0]; clear d0
          have ha := HALL.out a (by simp [named]); have hb0 := HALL.out b (by simp [named]); have hc0 := HALL.out 0 (by simp [named]); clear HALL
          rcases Int.lt_or_le a 13 with h13 | h13
          · have p13 : decide (a < 13) = true := by simp; omega
            have HL := sA (show insOk 8 a b 0 regs slots k n = false by have e : inB a 13 (regs - 1) = false := by { unfold inB; rw [decide_eq_false (show ¬ 13 ≤ a by omega)]; rfl }; show (inB a 13 (regs - 1) && inB b 0 (regs - 1) && inB 0 0 (regs - 1)) = false; rw [e]; rfl)
            clear h13
            go_wp2
            go_ret
            exact ⟨by rw [HL.out]; rfl, HB2.out⟩
          · have p13 : decide (a < 13) = false := by simp; omega
            have h13a : inB a 13 (regs - 1) = true := (inB_iff _ _ _).2 ⟨h13, ((inB_iff _ _ _).1 ha).2⟩
            have HL := sA (show insOk 8 a b 0 regs slots k n = true by show (inB a 13 (regs - 1) && inB b 0 (regs - 1) && inB 0 0 (regs - 1)) = _; rw [h13a, hb0, hc0]; rfl)
            clear h13 h13a ha hb0 hc0
            go_wp2
            go_ret
            exact ⟨by rw [HL.out]; rfl, HB2.out⟩
        · have d0 : decide ((9 : Int) ≤ 14 ∨ (9 : Int) = 20) = true := by decide
          rw [d0]; clear d0
          have ha := HALL.out a (by simp [named]); have hb0 := HALL.out b (by simp [named]); have hc0 := HALL.out 0 (by simp [named]); clear HALL
          rcases Int.lt_or_le a 13 with h13 | h13
          · have p13 : decide (a < 13) = true := by simp; omega
            have HL := sA (show insOk 9 a b 0 regs slots k n = false by have e : inB a 13 (regs - 1) = false := by { unfold inB; rw [decide_eq_false (show ¬ 13 ≤ a by omega)]; rfl }; show (inB a 13 (regs - 1) && inB b 0 (regs - 1) && inB 0 0 (regs - 1)) = false; rw [e]; rfl)
            clear h13
            go_wp2
            go_ret
            exact ⟨by rw [HL.out]; rfl, HB2.out⟩
          · have p13 : decide (a < 13) = false := by simp; omega
            have h13a : inB a 13 (regs - 1) = true := (inB_iff _ _ _).2 ⟨h13, ((inB_iff _ _ _).1 ha).2⟩
            have HL := sA (show insOk 9 a b 0 regs slots k n = true by show (inB a 13 (regs - 1) && inB b 0 (regs - 1) && inB 0 0 (regs - 1)) = _; rw [h13a, hb0, hc0]; rfl)
            clear h13 h13a ha hb0 hc0
            go_wp2
            go_ret
            exact ⟨by rw [HL.out]; rfl, HB2.out⟩
        · have d0 : decide ((10 : Int) ≤ 14 ∨ (10 : Int) = 20) = true := by decide
          rw [d0]; clear d0
          have ha := HALL.out a (by simp [named]); have hb0 := HALL.out b (by simp [named]); have hc0 := HALL.out 0 (by simp [named]); clear HALL
          rcases Int.lt_or_le a 13 with h13 | h13
          · have p13 : decide (a < 13) = true := by simp; omega
            have HL := sA (show insOk 10 a b 0 regs slots k n = false by have e : inB a 13 (regs - 1) = false := by { unfold inB; rw [decide_eq_false (show ¬ 13 ≤ a by omega)]; rfl }; show (inB a 13 (regs - 1) && inB b 0 (regs - 1) && inB 0 0 (regs - 1)) = false; rw [e]; rfl)
            clear h13
            go_wp2
            go_ret
            exact ⟨by rw [HL.out]; rfl, HB2.out⟩
          · have p13 : decide (a < 13) = false := by simp; omega
            have h13a : inB a 13 (regs - 1) = true := (inB_iff _ _ _).2 ⟨h13, ((inB_iff _ _ _).1 ha).2⟩
            have HL := sA (show insOk 10 a b 0 regs slots k n = true by show (inB a 13 (regs - 1) && inB b 0 (regs - 1) && inB 0 0 (regs - 1)) = _; rw [h13a, hb0, hc0]; rfl)
            clear h13 h13a ha hb0 hc0
            go_wp2
            go_ret
            exact ⟨by rw [HL.out]; rfl, HB2.out⟩
        · have d0 : decide ((11 : Int) ≤ 14 ∨ (11 : Int) = 20) = true := by decide
          rw [d0]; clear d0
          have ha := HALL.out a (by simp [named]); have hb0 := HALL.out b (by simp [named]); have hc0 := HALL.out 0 (by simp [named]); clear HALL
          rcases Int.lt_or_le a 13 with h13 | h13
          · have p13 : decide (a < 13) = true := by simp; omega
            have HL := sA (show insOk 11 a b 0 regs slots k n = false by have e : inB a 13 (regs - 1) = false := by { unfold inB; rw [decide_eq_false (show ¬ 13 ≤ a by omega)]; rfl }; show (inB a 13 (regs - 1) && inB b 0 (regs - 1) && inB 0 0 (regs - 1)) = false; rw [e]; rfl)
            clear h13
            go_wp2
            go_ret
            exact ⟨by rw [HL.out]; rfl, HB2.out⟩
          · have p13 : decide (a < 13) = false := by simp; omega
            have h13a : inB a 13 (regs - 1) = true := (inB_iff _ _ _).2 ⟨h13, ((inB_iff _ _ _).1 ha).2⟩
            have HL := sA (show insOk 11 a b 0 regs slots k n = true by show (inB a 13 (regs - 1) && inB b 0 (regs - 1) && inB 0 0 (regs - 1)) = _; rw [h13a, hb0, hc0]; rfl)
            clear h13 h13a ha hb0 hc0
            go_wp2
            go_ret
            exact ⟨by rw [HL.out]; rfl, HB2.out⟩
        · have d0 : decide ((12 : Int) ≤ 14 ∨ (12 : Int) = 20) = true := by decide
          rw [d0]; clear d0
          have ha := HALL.out a (by simp [named]); have hb0 := HALL.out b (by simp [named]); have hc0 := HALL.out 0 (by simp [named]); clear HALL
          rcases Int.lt_or_le a 13 with h13 | h13
          · have p13 : decide (a < 13) = true := by simp; omega
            have HL := sA (show insOk 12 a b 0 regs slots k n = false by have e : inB a 13 (regs - 1) = false := by { unfold inB; rw [decide_eq_false (show ¬ 13 ≤ a by omega)]; rfl }; show (inB a 13 (regs - 1) && inB b 0 (regs - 1) && inB 0 0 (regs - 1)) = false; rw [e]; rfl)
            clear h13
            go_wp2
            go_ret
            exact ⟨by rw [HL.out]; rfl, HB2.out⟩
          · have p13 : decide (a < 13) = false := by simp; omega
            have h13a : inB a 13 (regs - 1) = true := (inB_iff _ _ _).2 ⟨h13, ((inB_iff _ _ _).1 ha).2⟩
            have HL := sA (show insOk 12 a b 0 regs slots k n = true by show (inB a 13 (regs - 1) && inB b 0 (regs - 1) && inB 0 0 (regs - 1)) = _; rw [h13a, hb0, hc0]; rfl)
            clear h13 h13a ha hb0 hc0
            go_wp2
            go_ret
            exact ⟨by rw [HL.out]; rfl, HB2.out⟩
        · have d0 : decide ((13 : Int) ≤ 14 ∨ (13 : Int) = 20) = true := by decide
          rw [d0]; clear d0
          have ha := HALL.out a (by simp [named]); clear HALL
          rcases Int.lt_or_le a 13 with h13 | h13
          · have p13 : decide (a < 13) = true := by simp; omega
            have HL := sA (show insOk 13 a b 0 regs slots k n = false by have e : inB a 13 (regs - 1) = false := by { unfold inB; rw [decide_eq_false (show ¬ 13 ≤ a by omega)]; rfl }; show (inB a 13 (regs - 1) && inB b 0 15) = false; rw [e]; rfl)
            clear h13
            go_wp2
            go_ret
            exact ⟨by rw [HL.out]; rfl, HB2.out⟩
          · have p13 : decide (a < 13) = false := by simp; omega
            have h13a : inB a 13 (regs - 1) = true := (inB_iff _ _ _).2 ⟨h13, ((inB_iff _ _ _).1 ha).2⟩
            have HL := sA (show insOk 13 a b 0 regs slots k n = inB b 0 15 by show (inB a 13 (regs - 1) && inB b 0 15) = _; rw [h13a]; rfl)
            clear h13 h13a ha
            go_wp2_with (go_at_call 79; refine (impl_within _ _ _ _).mono ?_; rintro e w' ⟨rfl, rfl⟩)
            go_ret
            exact ⟨by rw [HL.out]; rfl, HB2.out⟩
        · have d0 : decide ((14 : Int) ≤ 14 ∨ (14 : Int) = 20) = true := by decide
          rw [d0]; clear d0
          have ha := HALL.out a (by simp [named]); clear HALL
          rcases Int.lt_or_le a 13 with h13 | h13
          · have p13 : decide (a < 13) = true := by simp; omega
            have HL := sA (show insOk 14 a b 0 regs slots k n = false by have e : inB a 13 (regs - 1) = false := by { unfold inB; rw [decide_eq_false (show ¬ 13 ≤ a by omega)]; rfl }; show (inB a 13 (regs - 1) && inB b 0 15) = false; rw [e]; rfl)
            clear h13
            go_wp2
            go_ret
            exact ⟨by rw [HL.out]; rfl, HB2.out⟩
          · have p13 : decide (a < 13) = false := by simp; omega
            have h13a : inB a 13 (regs - 1) = true := (inB_iff _ _ _).2 ⟨h13, ((inB_iff _ _ _).1 ha).2⟩
            have HL := sA (show insOk 14 a b 0 regs slots k n = inB b 0 15 by show (inB a 13 (regs - 1) && inB b 0 15) = _; rw [h13a]; rfl)
            clear h13 h13a ha
            go_wp2_with (go_at_call 79; refine (impl_within _ _ _ _).mono ?_; rintro e w' ⟨rfl, rfl⟩)
            go_ret
            exact ⟨by rw [HL.out]; rfl, HB2.out⟩
        · have d0 : decide ((15 : Int) ≤ 14 ∨ (15 : Int) = 20) = false := by decide
          rw [d0]; clear d0
          have ha := HALL.out a (by simp [named]); clear HALL
          have HL := sA (show insOk 15 a b 0 regs slots k n = inB b (k + 1) n by show (inB a 0 (regs - 1) && inB b (k + 1) n) = _; rw [ha]; rfl)
          clear ha
          go_wp2_with (go_at_call 79; refine (impl_within _ _ _ _).mono ?_; rintro e w' ⟨rfl, rfl⟩)
          go_ret
          exact ⟨by rw [HL.out]; rfl, HB2.out⟩
        · have d0 : decide ((16 : Int) ≤ 14 ∨ (16 : Int) = 20) = false := by decide
          rw [d0]; clear d0
          have ha := HALL.out a (by simp [named]); clear HALL
          have HL := sA (show insOk 16 a b 0 regs slots k n = inB b (k + 1) n by show (inB a 0 (regs - 1) && inB b (k + 1) n) = _; rw [ha]; rfl)
          clear ha
          go_wp2_with (go_at_call 79; refine (impl_within _ _ _ _).mono ?_; rintro e w' ⟨rfl, rfl⟩)
          go_ret
          exact ⟨by rw [HL.out]; rfl, HB2.out⟩
        · have d0 : decide ((17 : Int) ≤ 14 ∨ (17 : Int) = 20) = false := by decide
          rw [d0]; clear d0
          clear HALL
          rcases Classical.em (a = 0) with h0 | h0
          · subst h0
            have HL := sA (show insOk 17 0 b 0 regs slots k n = inB b (k + 1) n by rfl)
            go_wp2_with (go_at_call 79; refine (impl_within _ _ _ _).mono ?_; rintro e w' ⟨rfl, rfl⟩)
            go_ret
            exact ⟨by rw [HL.out]; rfl, HB2.out⟩
          · have p17 : (a == 0) = false := by simp [h0]
            have p18 : decide (a = 0) = false := by simp [h0]
            have HL := sA (show insOk 17 a b 0 regs slots k n = false by show (decide (a = 0) && inB b (k + 1) n) = false; rw [p18]; rfl); clear h0
            go_wp2
            go_ret
            exact ⟨by rw [HL.out]; rfl, HB2.out⟩
        · have d0 : decide ((18 : Int) ≤ 14 ∨ (18 : Int) = 20) = false := by decide
          rw [d0]; clear d0
          have ha := HALL.out a (by simp [named]); clear HALL
          have HL := sA (show insOk 18 a b 0 regs slots k n = inB b 1 100 by show (inB a 0 (regs - 1) && inB b 1 100) = _; rw [ha]; rfl)
          clear ha
          go_wp2_with (go_at_call 79; refine (impl_within _ _ _ _).mono ?_; rintro e w' ⟨rfl, rfl⟩)
          go_ret
          exact ⟨by rw [HL.out]; rfl, HB2.out⟩
        · have d0 : decide ((19 : Int) ≤ 14 ∨ (19 : Int) = 20) = false := by decide
          rw [d0]; clear d0
          have hb0 := HALL.out b (by simp [named]); clear HALL
          have HL := sA (show insOk 19 a b 0 regs slots k n = inB a 0 (slots - 1) by show (inB a 0 (slots - 1) && inB b 0 (regs - 1)) = _; rw [hb0]; simp)
          clear hb0
          go_wp2_with (go_at_call 79; refine (impl_within _ _ _ _).mono ?_; rintro e w' ⟨rfl, rfl⟩)
          go_ret
          exact ⟨by rw [HL.out]; rfl, HB2.out⟩
        · have d0 : decide ((20 : Int) ≤ 14 ∨ (20 : Int) = 20) = true := by decide
          rw [d0]; clear d0
          have ha := HALL.out a (by simp [named]); clear HALL
          rcases Int.lt_or_le a 13 with h13 | h13
          · have p13 : decide (a < 13) = true := by simp; omega
            have HL := sA (show insOk 20 a b 0 regs slots k n = false by have e : inB a 13 (regs - 1) = false := by { unfold inB; rw [decide_eq_false (show ¬ 13 ≤ a by omega)]; rfl }; show (inB a 13 (regs - 1) && inB b 0 (slots - 1)) = false; rw [e]; rfl)
            clear h13
            go_wp2
            go_ret
            exact ⟨by rw [HL.out]; rfl, HB2.out⟩
          · have p13 : decide (a < 13) = false := by simp; omega
            have h13a : inB a 13 (regs - 1) = true := (inB_iff _ _ _).2 ⟨h13, ((inB_iff _ _ _).1 ha).2⟩
            have HL := sA (show insOk 20 a b 0 regs slots k n = inB b 0 (slots - 1) by show (inB a 13 (regs - 1) && inB b 0 (slots - 1)) = _; rw [h13a]; rfl)
            clear h13 h13a ha
            go_wp2_with (go_at_call 79; refine (impl_within _ _ _ _).mono ?_; rintro e w' ⟨rfl, rfl⟩)
            go_ret
            exact ⟨by rw [HL.out]; rfl, HB2.out⟩
end
end Go.Proofs.YtlhpbpkefkabgaaGreat.L1
