/- ValidCode of the program. -/
import Derived.Test.YtmjpajaeffhdeaaL3e
namespace Go.Proofs.Ytmjpajaeffhdeaa.L1
open Go.RowKit Go.Proofs.YtmjpajaeffhdeaaW.PrintWords Go.Proofs.Ytmjpajaeffhdeaa.B
set_option linter.unusedVariables false
set_option linter.unusedSimpArgs false
attribute [local go_sem] mk_cell mk_frozen
def Code.bl (x : Code) (j : Nat) : List Ins := [x.b0, x.b1, x.b2].getD j []
def Code.good (x : Code) (j : Nat) : Bool := blockOk x.regs x.slots (x.bl j)
theorem Code.valid_all {x : Code} (h0 : inB x.regs 13 1000 = true) (h1 : inB x.slots 0 100 = true) (h : ∀ j, j < 3 → x.good j = true) : x.valid = true := by
  have a := h 0 (by omega); have b := h 1 (by omega); have c := h 2 (by omega)
  unfold Code.good Code.bl at a b c
  simp at a b c
  unfold Code.valid
  rw [h0, h1, a, b, c]; rfl
theorem Code.valid_bad {x : Code} (j : Nat) (hj : j < 3) (h : x.good j = false) : x.valid = false := by
  unfold Code.good Code.bl at h
  unfold Code.valid
  rcases (show j = 0 ∨ j = 1 ∨ j = 2 by omega) with rfl | rfl | rfl <;> simp at h <;> simp [h]
section
variable (w : World)
set_option maxRecDepth 100000 in
set_option maxHeartbeats 4000000 in
theorem impl_ValidCode (v : Value) (x : Code) (hr : ReadCode w v x) : Calls Try.prog 21 #[v] w fun e w' => e = .returned (.bool x.valid) ∧ Below w.heap.size w w' := by
  obtain ⟨A0, c0, A1, c1, A2, c2, rfl, r0, r1, r2⟩ := hr
  have m0 := r0.2.1; have m1 := r1.2.1; have m2 := r2.2.1
  have HR := Aside0.mk (And.intro r0 (And.intro r1 r2)); clear r0 r1 r2
  have HB0 := Aside0.mk (below_alloc (Below.refl w.heap.size w) (.cells #[.int .i64 x.regs, .int .i64 x.slots, .slice A0 x.b0.length c0, .slice A1 x.b1.length c1, .slice A2 x.b2.length c2] 32))
  go_enter Try.func21, Try.ntmps21
  go_wp2_with fail
  go_at_call 59
  refine (impl_within _ _ _ _).mono ?_
  rintro e w' ⟨rfl, rfl⟩
  cases h0 : inB x.regs 13 1000 with
  | false =>
    have HV := Aside0.mk (show x.valid = false by unfold Code.valid; rw [h0]; rfl); clear h0
    go_wp2
    go_ret
    exact ⟨by rw [HV.out]; rfl, HB0.out⟩
  | true =>
  have G0 := Aside0.mk h0; clear h0
  go_wp2_with fail
  go_at_call 59
  refine (impl_within _ _ _ _).mono ?_
  rintro e w' ⟨rfl, rfl⟩
  cases h0 : inB x.slots 0 100 with
  | false =>
    have HV := Aside0.mk (show x.valid = false by unfold Code.valid; rw [h0]; simp); clear h0
    go_wp2
    go_ret
    exact ⟨by rw [HV.out]; rfl, HB0.out⟩
  | true =>
  have G1 := Aside0.mk h0; clear h0
  have HN := Aside0.mk (And.intro ((inB_iff _ _ _).1 G0.out) ((inB_iff _ _ _).1 G1.out))
  go_wp2_with fail
  have HB1 := Aside0.mk (below_alloc HB0.out (.cells #[.slice A0 x.b0.length c0, .slice A1 x.b1.length c1, .slice A2 x.b2.length c2] 30))
  have HC1 := Aside0.mk ((al_old (by simp only [al_size]; omega)).trans (al_new w (.cells #[.int .i64 x.regs, .int .i64 x.slots, .slice A0 x.b0.length c0, .slice A1 x.b1.length c1, .slice A2 x.b2.length c2] 32)) : ((w.alloc (.cells #[.int .i64 x.regs, .int .i64 x.slots, .slice A0 x.b0.length c0, .slice A1 x.b1.length c1, .slice A2 x.b2.length c2] 32)).alloc (.cells #[.slice A0 x.b0.length c0, .slice A1 x.b1.length c1, .slice A2 x.b2.length c2] 30)).heap[w.heap.size]? = _)
  have hS := al_new (w.alloc (.cells #[.int .i64 x.regs, .int .i64 x.slots, .slice A0 x.b0.length c0, .slice A1 x.b1.length c1, .slice A2 x.b2.length c2] 32)) (.cells #[.slice A0 x.b0.length c0, .slice A1 x.b1.length c1, .slice A2 x.b2.length c2] 30); rw [al_size] at hS; have HS1 := Aside0.mk hS; clear hS HB0
  go_loopg [25] 4 (fun q v25 wr => ∃ j, q = 4 - j ∧ j ≤ 3 ∧ v25 = .int .i64 j ∧ Aside0 (∀ i, i < j → x.good i = true) ∧ Aside0 (Below w.heap.size w wr) ∧ Aside0 (wr.heap[w.heap.size]? = some (.cells #[.int .i64 x.regs, .int .i64 x.slots, .slice A0 x.b0.length c0, .slice A1 x.b1.length c1, .slice A2 x.b2.length c2] 32)) ∧ Aside0 (wr.heap[w.heap.size + 1]? = some (.cells #[.slice A0 x.b0.length c0, .slice A1 x.b1.length c1, .slice A2 x.b2.length c2] 30)))
  case atStart => exact ⟨0, by omega, by omega, rfl, ⟨fun j hj => absurd hj (Nat.not_lt_zero _)⟩, HB1, HC1, HS1⟩
  case round =>
    obtain ⟨j, rfl, hj, rfl, HP, HBj, HCj, HSj⟩ := hrel
    clear HB1 HC1 HS1
    by_cases hlt : j < 3
    · have hsl : ∃ A c, wr.cell? ⟨w.heap.size + 1, j, none⟩ = some (.slice A (x.bl j).length c) ∧ kIns.C w A (x.bl j).length (x.bl j) := by
        rcases (show j = 0 ∨ j = 1 ∨ j = 2 by omega) with rfl | rfl | rfl
        · exact ⟨A0, c0, blk_cell HSj.out 0, HR.out.1⟩
        · exact ⟨A1, c1, blk_cell HSj.out 1, HR.out.2.1⟩
        · exact ⟨A2, c2, blk_cell HSj.out 2, HR.out.2.2⟩
      obtain ⟨R, rc, z0, hR⟩ := hsl
      have hgood : x.good j = blockOk x.regs x.slots (x.bl j) := rfl
      generalize x.bl j = xs at z0 hR hgood
      have hml := hR.2.1
      have HX := Aside0.mk hR; have HG := Aside0.mk hgood; clear hR hgood
      have PJ := Aside0.mk (show decide ((j : Int) < 3) = true by simp; omega)
      have HLT := Aside0.mk hlt
      by_cases hl : 16384 < xs.length
      · have HL := Aside0.mk (show x.valid = false from Code.valid_bad j HLT.out (by rw [HG.out]; unfold blockOk; rw [decide_eq_false (show ¬ xs.length ≤ 16384 by omega)]; rfl))
        have p0 : decide ((16384 : Int) < (xs.length : Int)) = true := by simp; omega
        go_wp2
        go_ret
        exact ⟨by rw [HL.out]; rfl, HBj.out⟩
      have p0 : decide ((16384 : Int) < (xs.length : Int)) = false := by simp; omega
      go_wp2_with fail
      rw [PJ.out]
      go_loopg [34] (xs.length + 1) (fun q v34 wk => ∃ k, q = xs.length + 1 - k ∧ k ≤ xs.length ∧ v34 = .int .i64 k ∧ Aside0 (∀ i, i < k → (xs.getD i zIns).ok x.regs x.slots i xs.length = true) ∧ Aside0 (Below w.heap.size w wk) ∧ Aside0 (wk.heap[w.heap.size]? = some (.cells #[.int .i64 x.regs, .int .i64 x.slots, .slice A0 x.b0.length c0, .slice A1 x.b1.length c1, .slice A2 x.b2.length c2] 32)) ∧ Aside0 (wk.heap[w.heap.size + 1]? = some (.cells #[.slice A0 x.b0.length c0, .slice A1 x.b1.length c1, .slice A2 x.b2.length c2] 30)))
      case atStart => exact ⟨0, by omega, by omega, rfl, ⟨fun j hj => absurd hj (Nat.not_lt_zero _)⟩, HBj, HCj, HSj⟩
      case round =>
        obtain ⟨k, rfl, hk, rfl, HQ, HBk, HCk, HSk⟩ := hrel
        clear HBj HCj HSj z0
        by_cases hkl : k < xs.length
        · obtain ⟨ad, e0, t0, t1⟩ := Kd.flat_cells (d := kIns) rfl (Kd.C_below HX.out HBk.out) zIns k hkl
          cases e0
          generalize hy : xs.getD k zIns = y at t0 t1
          have HY := Aside0.mk hy; clear hy
          have y0 := t0 _ rfl; have y1 := t1 0 _ rfl; have y2 := t1 1 _ rfl; have y3 := t1 2 _ rfl
          clear t0 t1
          obtain ⟨b1, b2⟩ := lay (Below.refl _ _) (blk_box HCk.out (.cells #[.int .i64 y.op, .int .i64 y.a, .int .i64 y.b, .int .i64 y.c] 81))
          go_wp2_with fail
          clear b1 b2 y0 y1 y2 y3
          go_at_call 60
          refine (impl_good _ y.op y.a y.b y.c x.regs x.slots _ _ _ k xs.length HN.out.1 HN.out.2 (by omega)).mono ?_
          rintro e w4 ⟨rfl, hb⟩
          have HB4 := Aside0.mk (bel_call (bel_box HBk.out (.cells #[.int .i64 y.op, .int .i64 y.a, .int .i64 y.b, .int .i64 y.c] 81)) hb); have HC4 := Aside0.mk (blk_below (blk_box HCk.out (.cells #[.int .i64 y.op, .int .i64 y.a, .int .i64 y.b, .int .i64 y.c] 81)) hb); have HS4 := Aside0.mk (blk_below (blk_box HSk.out (.cells #[.int .i64 y.op, .int .i64 y.a, .int .i64 y.b, .int .i64 y.c] 81)) hb); clear hb HBk HCk HSk
          cases hst : insOk y.op y.a y.b y.c x.regs x.slots k xs.length with
          | false =>
            have HL := Aside0.mk (show x.valid = false from Code.valid_bad j HLT.out (by rw [HG.out]; unfold blockOk; rw [allI_false hkl (by rw [HY.out]; exact hst)]; simp)); clear hst
            go_wp2
            go_ret
            exact ⟨by rw [HL.out]; rfl, HB4.out⟩
          | true =>
            have HQ1 := Aside0.mk (show ∀ i, i < k + 1 → (xs.getD i zIns).ok x.regs x.slots i xs.length = true from fun i hi => by
              rcases Nat.lt_or_ge i k with h | h
              · exact HQ.out i h
              · rw [show i = k by omega, HY.out]; exact hst); clear hst
            go_wp2
            go_roundg (xs.length + 1 - (k + 1))
            case measure => omega
            case rel => exact ⟨k + 1, rfl, hkl, by go_num, HQ1, HB4, HC4, HS4⟩
        · have HP1 := Aside0.mk (show ∀ i, i < j + 1 → x.good i = true from fun i hi => by
            rcases Nat.lt_or_ge i j with h | h
            · exact HP.out i h
            · rw [show i = j by omega, HG.out]; unfold blockOk; rw [decide_eq_true (show xs.length ≤ 16384 by omega), allI_iff.2 fun i hi => HQ.out i (by omega)]; rfl)
          go_wp2
          go_roundg (4 - (j + 1))
          case measure => omega
          case rel => exact ⟨j + 1, rfl, HLT.out, by go_num, HP1, HBk, HCk, HSk⟩
    · have HL := Aside0.mk (show x.valid = true from Code.valid_all G0.out G1.out fun i hi => HP.out i (by omega))
      go_wp2
      go_ret
      exact ⟨by rw [HL.out]; rfl, HBj.out⟩
end
end Go.Proofs.Ytmjpajaeffhdeaa.L1
