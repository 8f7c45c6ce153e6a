/- ValidCode of the program. What a route costs, as the reference tells it. Is a route good, as the reference and the program tell it. Is a route good, as the reference tells it; what it costs there. Is a route good, as the program tells it: slices.ContainsFunc over a closure. ValidState of the reference. -/
import Derived.Test.YtlhpbpkefkabgaaGreatQS10
import Derived.Test.YtlhpbpkefkabgaaGreatQS8
import Derived.Shelf.Abstract
namespace Go.Proofs.YtlhpbpkefkabgaaGreat.L1
open Go.RowKit Go.Proofs.YtlhpbpkefkabgaaGreatW.PrintWords Go.Proofs.YtlhpbpkefkabgaaGreat.B
set_option linter.unusedVariables false
set_option linter.unusedSimpArgs false
attribute [local go_sem] mk_cell mk_frozen
def Code.bl (x : Code) (j : Nat) : List Ins := [x.b0, x.b1, x.b2].getD j []
def Code.good (x : Code) (j : Nat) : Bool := blockOk x.regs x.slots (x.bl j)
theorem Code.valid_all {x : Code} (h0 : inB x.regs 13 1000 = true) (h1 : inB x.slots 0 100 = true) (h : ∀ j, j < 3 → x.good j = true) : x.valid = true := by
  have a := h 0 (by omega); have b := h 1 (by omega); have c := h 2 (by omega)
  unfold Code.good Code.bl at a b c
  simp at a b c
  unfold Code.valid
  rw [h0, h1, a, b, c]; rfl
theorem Code.valid_bad {x : Code} (j : Nat) (hj : j < 3) (h : x.good j = false) : x.valid = false := by
  unfold Code.good Code.bl at h
  unfold Code.valid
  rcases (show j = 0 ∨ j = 1 ∨ j = 2 by omega) with rfl | rfl | rfl <;> simp at h <;> simp [h]
section
variable (w : World)
set_option maxRecDepth 100000 in
set_option maxHeartbeats 4000000 in
theorem impl_ValidCode (v : Value) (x : Code) (hr : ReadCode w v x) : Calls Tryz.prog 77 #[v] w fun e w' => e = .returned (.bool x.valid) ∧ Below w.heap.size w w' := by
  obtain ⟨A0, c0, A1, c1, A2, c2, rfl, r0, r1, r2⟩ := hr
  have m0 := r0.2.1; have m1 := r1.2.1; have m2 := r2.2.1
  have HR := sA (And.intro r0 (And.intro r1 r2)); clear r0 r1 r2
  have HB0 := sA (bA (Below.refl w.heap.size w) (.cells #[.int .i64 x.regs, .int .i64 x.slots, .slice A0 x.b0.length c0, .slice A1 x.b1.length c1, .slice A2 x.b2.length c2] 41))
  go_enter Tryz.func77, Tryz.ntmps77
  go_wp2_with fail
  go_at_call 79
  refine (impl_within _ _ _ _).mono ?_
  rintro e w' ⟨rfl, rfl⟩
  cases h0 : inB x.regs 13 1000 with
  | false =>
    have HV := sA (show x.valid = false by unfold Code.valid; rw [h0]; rfl); clear h0
    go_wp2
    go_ret
    exact ⟨by rw [HV.out]; rfl, HB0.out⟩
  | true =>
  have G0 := sA h0; clear h0
  go_wp2_with fail
  go_at_call 79
  refine (impl_within _ _ _ _).mono ?_
  rintro e w' ⟨rfl, rfl⟩
  cases h0 : inB x.slots 0 100 with
  | false =>
    have HV := sA (show x.valid = false by unfold Code.valid; rw [h0]; simp); clear h0
    go_wp2
    go_ret
    exact ⟨by rw [HV.out]; rfl, HB0.out⟩
  | true =>
  have G1 := sA h0; clear h0
  have HN := sA (And.intro ((inB_iff _ _ _).1 G0.out) ((inB_iff _ _ _).1 G1.out))
  go_wp2_with fail
  have HB1 := sA (bA HB0.out (.cells #[.slice A0 x.b0.length c0, .slice A1 x.b1.length c1, .slice A2 x.b2.length c2] 39))
  have HC1 := sA ((al_old (by simp only [al_size]; omega)).trans (al_new w (.cells #[.int .i64 x.regs, .int .i64 x.slots, .slice A0 x.b0.length c0, .slice A1 x.b1.length c1, .slice A2 x.b2.length c2] 41)) : ((w.alloc (.cells #[.int .i64 x.regs, .int .i64 x.slots, .slice A0 x.b0.length c0, .slice A1 x.b1.length c1, .slice A2 x.b2.length c2] 41)).alloc (.cells #[.slice A0 x.b0.length c0, .slice A1 x.b1.length c1, .slice A2 x.b2.length c2] 39)).heap[w.heap.size]? = _)
  have hS := al_new (w.alloc (.cells #[.int .i64 x.regs, .int .i64 x.slots, .slice A0 x.b0.length c0, .slice A1 x.b1.length c1, .slice A2 x.b2.length c2] 41)) (.cells #[.slice A0 x.b0.length c0, .slice A1 x.b1.length c1, .slice A2 x.b2.length c2] 39); rw [al_size] at hS; have HS1 := sA hS; clear hS HB0
  go_loopg [25] 4 (fun q v25 wr => ∃ j, q = 4 - j ∧ j ≤ 3 ∧ v25 = .int .i64 j ∧ Aside0 (∀ i, i < j → x.good i = true) ∧ Aside0 (Below w.heap.size w wr) ∧ Aside0 (wr.heap[w.heap.size]? = some (.cells #[.int .i64 x.regs, .int .i64 x.slots, .slice A0 x.b0.length c0, .slice A1 x.b1.length c1, .slice A2 x.b2.length c2] 41)) ∧ Aside0 (wr.heap[w.heap.size + 1]? = some (.cells #[.slice A0 x.b0.length c0, .slice A1 x.b1.length c1, .slice A2 x.b2.length c2] 39)))
  case atStart => exact ⟨0, by omega, by omega, rfl, ⟨fun j hj => absurd hj (Nat.not_lt_zero _)⟩, HB1, HC1, HS1⟩
  case round =>
    obtain ⟨j, rfl, hj, rfl, HP, HBj, HCj, HSj⟩ := hrel
    clear HB1 HC1 HS1
    by_cases hlt : j < 3
    · have hsl : ∃ A c, wr.cell? ⟨w.heap.size + 1, j, none⟩ = some (.slice A (x.bl j).length c) ∧ kIns.C w A (x.bl j).length (x.bl j) := by
        rcases (show j = 0 ∨ j = 1 ∨ j = 2 by omega) with rfl | rfl | rfl
        · exact ⟨A0, c0, blk_cell HSj.out 0, HR.out.1⟩
        · exact ⟨A1, c1, blk_cell HSj.out 1, HR.out.2.1⟩
        · exact ⟨A2, c2, blk_cell HSj.out 2, HR.out.2.2⟩
      obtain ⟨R, rc, z0, hR⟩ := hsl
      have hgood : x.good j = blockOk x.regs x.slots (x.bl j) := rfl
      generalize x.bl j = xs at z0 hR hgood
      have hml := hR.2.1
      have HX := sA hR; have HG := sA hgood; clear hR hgood
      have PJ := sA (show decide ((j : Int) < 3) = true by simp; omega)
      have HLT := sA hlt
      by_cases hl : 16384 < xs.length
      · have HL := sA (show x.valid = false from Code.valid_bad j HLT.out (by rw [HG.out]; unfold blockOk; rw [decide_eq_false (show ¬ xs.length ≤ 16384 by omega)]; rfl))
        have p0 : decide ((16384 : Int) < (xs.length : Int)) = true := by simp; omega
        go_wp2
        go_ret
        exact ⟨by rw [HL.out]; rfl, HBj.out⟩
      have p0 : decide ((16384 : Int) < (xs.length : Int)) = false := by simp; omega
      go_wp2_with fail
      rw [PJ.out]
      go_loopg [34] (xs.length + 1) (fun q v34 wk => ∃ k, q = xs.length + 1 - k ∧ k ≤ xs.length ∧ v34 = .int .i64 k ∧ Aside0 (∀ i, i < k → (xs.getD i zIns).ok x.regs x.slots i xs.length = true) ∧ Aside0 (Below w.heap.size w wk) ∧ Aside0 (wk.heap[w.heap.size]? = some (.cells #[.int .i64 x.regs, .int .i64 x.slots, .slice A0 x.b0.length c0, .slice A1 x.b1.length c1, .slice A2 x.b2.length c2] 41)) ∧ Aside0 (wk.heap[w.heap.size + 1]? = some (.cells #[.slice A0 x.b0.length c0, .slice A1 x.b1.length c1, .slice A2 x.b2.length c2] 39)))
      case atStart => exact ⟨0, by omega, by omega, rfl, ⟨fun j hj => absurd hj (Nat.not_lt_zero _)⟩, HBj, HCj, HSj⟩
      case round =>
        obtain ⟨k, rfl, hk, rfl, HQ, HBk, HCk, HSk⟩ := hrel
        clear HBj HCj HSj z0
        by_cases hkl : k < xs.length
        · obtain ⟨ad, e0, t0, t1⟩ := Kd.flat_cells (d := kIns) rfl (Kd.C_below HX.out HBk.out) zIns k hkl
          cases e0
          generalize hy : xs.getD k zIns = y at t0 t1
          have HY := sA hy; clear hy
          have y0 := t0 _ rfl; have y1 := t1 0 _ rfl; have y2 := t1 1 _ rfl; have y3 := t1 2 _ rfl
          clear t0 t1
          obtain ⟨b1, b2⟩ := lay0 (blk_box HCk.out (.cells #[.int .i64 y.op, .int .i64 y.a, .int .i64 y.b, .int .i64 y.c] 99))
          go_wp2_with fail
          clear b1 b2 y0 y1 y2 y3
          go_at_call 114
          refine (impl_good _ y.op y.a y.b y.c x.regs x.slots _ _ _ k xs.length HN.out.1 HN.out.2 (by omega)).mono ?_
          rintro e w4 ⟨rfl, hb⟩
          have HB4 := sA (bC (bel_box HBk.out (.cells #[.int .i64 y.op, .int .i64 y.a, .int .i64 y.b, .int .i64 y.c] 99)) hb); have HC4 := sA (bB (blk_box HCk.out (.cells #[.int .i64 y.op, .int .i64 y.a, .int .i64 y.b, .int .i64 y.c] 99)) hb); have HS4 := sA (bB (blk_box HSk.out (.cells #[.int .i64 y.op, .int .i64 y.a, .int .i64 y.b, .int .i64 y.c] 99)) hb); clear hb HBk HCk HSk
          cases hst : insOk y.op y.a y.b y.c x.regs x.slots k xs.length with
          | false =>
            have HL := sA (show x.valid = false from Code.valid_bad j HLT.out (by rw [HG.out]; unfold blockOk; rw [allI_false hkl (by rw [HY.out]; exact hst)]; simp)); clear hst
            go_wp2
            go_ret
            exact ⟨by rw [HL.out]; rfl, HB4.out⟩
          | true =>
            have HQ1 := sA (show ∀ i, i < k + 1 → (xs.getD i zIns).ok x.regs x.slots i xs.length = true from fun i hi => by
              rcases Nat.lt_or_ge i k with h | h
              · exact HQ.out i h
              · rw [show i = k by omega, HY.out]; exact hst); clear hst
            go_wp2
            go_roundg (xs.length + 1 - (k + 1))
            case measure => omega
            case rel => exact ⟨k + 1, rfl, hkl, by go_num, HQ1, HB4, HC4, HS4⟩
        · have HP1 := sA (show ∀ i, i < j + 1 → x.good i = true from fun i hi => by
            rcases Nat.lt_or_ge i j with h | h
            · exact HP.out i h
            · rw [show i = j by omega, HG.out]; unfold blockOk; rw [decide_eq_true (show xs.length ≤ 16384 by omega), allI_iff.2 fun i hi => HQ.out i (by omega)]; rfl)
          go_wp2
          go_roundg (4 - (j + 1))
          case measure => omega
          case rel => exact ⟨j + 1, rfl, HLT.out, by go_num, HP1, HBk, HCk, HSk⟩
    · have HL := sA (show x.valid = true from Code.valid_all G0.out G1.out fun i hi => HP.out i (by omega))
      go_wp2
      go_ret
      exact ⟨by rw [HL.out]; rfl, HBj.out⟩
end
end Go.Proofs.YtlhpbpkefkabgaaGreat.L1
namespace Go.Proofs.YtlhpbpkefkabgaaGreat.L1
open Go.RowKit Go.Proofs.YtlhpbpkefkabgaaGreatW.PrintWords Go.Proofs.YtlhpbpkefkabgaaGreat.B
set_option linter.unusedVariables false
set_option linter.unusedSimpArgs false
attribute [local go_sem] mk_cell mk_frozen
def nodeAt (v : Int) (xs : List Int) (i : Nat) : Int := if i = 0 ∨ xs.length < i then v else xs.getD (i - 1) 0
def Inst.legTo (x : Inst) (v : Int) (xs : List Int) (i : Nat) : Int := if i = 0 then 0 else x.leg (nodeAt v xs (i - 1)) (nodeAt v xs i)
def Inst.distTo (x : Inst) (v : Int) (xs : List Int) : Nat → Int
  | 0 => 0
  | i + 1 => satAdd (x.distTo v xs i) (x.legTo v xs (i + 1))
section
variable (w : World)
theorem spec_nodeAt (v : Int) (r : Value) (xs : List Int) (hr : ReadInts w r xs) (i : Nat) : Calls Tryz.prog 148 #[.int .i64 v, r, .int .i64 i] w fun e w' => e = .returned (.int .i64 (nodeAt v xs i)) ∧ Below w.heap.size w w' := by
  obtain ⟨A, c, rfl, h0⟩ := hr
  rcases Nat.eq_zero_or_pos i with hi | hi
  · have hn : nodeAt v xs i = v := by unfold nodeAt; rw [if_pos (.inl hi)]
    have p0 : (((i : Nat) : Int) == 0) = true := by simp [hi]
    have p1 : decide (((i : Nat) : Int) = 0) = true := by simp [hi]
    have HH := sA hn; clear hn h0
    go_enter Tryz.func148, Tryz.ntmps148
    go_wp2
    go_ret
    exact ⟨by rw [HH.out]; rfl, Below.refl _ _⟩
  · have p0 : (((i : Nat) : Int) == 0) = false := by simp; omega
    have p1 : decide (((i : Nat) : Int) = 0) = false := by simp; omega
    rcases Nat.lt_or_ge xs.length i with hl | hl
    · have hn : nodeAt v xs i = v := by unfold nodeAt; rw [if_pos (.inr hl)]
      have p2 : decide ((xs.length : Int) < (i : Int)) = true := by simp; omega
      have HH := sA hn; clear hn h0
      go_enter Tryz.func148, Tryz.ntmps148
      go_wp2
      go_ret
      exact ⟨by rw [HH.out]; rfl, Below.refl _ _⟩
    · have hn : nodeAt v xs i = xs.getD (i - 1) 0 := by unfold nodeAt; rw [if_neg (by omega)]
      have p2 : decide ((xs.length : Int) < (i : Int)) = false := by simp; omega
      obtain ⟨ad, e0, t0, t1⟩ := Kd.flat_cells (d := kInt) rfl h0 0 (i - 1) (by omega)
      cases e0
      have c0 := t0 _ rfl; simp only [Nat.mul_one] at c0
      have hml := h0.2.1
      generalize xs.getD (i - 1) 0 = y at c0 hn
      have HH := sA hn; clear hn h0 t0 t1
      have q0 : (i : Int) - 1 < (xs.length : Int) := by omega
      have q1 : (0 : Int) ≤ (i : Int) - 1 := by omega
      have q2 : (1 : Int) ≤ (i : Int) := by omega
      have q3 : IntKind.i64.wrap ((i : Int) - 1) = (i : Int) - 1 := IntWalk.i64_in _ (by omega)
      have q4 : ((i : Int) - 1).toNat = i - 1 := by omega
      go_enter Tryz.func148, Tryz.ntmps148
      go_wp2
      go_ret
      exact ⟨by rw [HH.out]; rfl, Below.refl _ _⟩
def Inst.route (x : Inst) (v : Int) (xs : List Int) : Prop := x.valid = true ∧ ∀ i, 0 ≤ nodeAt v xs i ∧ nodeAt v xs i < x.nodes
set_option maxRecDepth 100000 in
set_option maxHeartbeats 2000000 in
theorem spec_legTo (u r : Value) (x : Inst) (hr : ReadInst w u x) (v : Int) (xs : List Int) (hs : ReadInts w r xs) (ho : x.route v xs) (i : Nat) (hi : i ≤ 1048576) : Calls Tryz.prog 151 #[u, .int .i64 v, r, .int .i64 i] w fun e w' => e = .returned (.int .i64 (x.legTo v xs i)) ∧ Below w.heap.size w w' := by
  have HV := sA ho.1; have HO := sA ho.2; clear ho
  have HX := sA hr; have HS := sA hs; clear hs
  obtain ⟨A0, c0, A1, c1, A2, c2, rfl, r0, r1, r2⟩ := hr
  clear r0 r1 r2
  have HB := sA (bA (Below.refl w.heap.size w) (.cells #[.slice A0 x.vs.length c0, .slice A1 x.qs.length c1, .slice A2 x.rs.length c2] 47)); have HA := sA (al_new w (.cells #[.slice A0 x.vs.length c0, .slice A1 x.qs.length c1, .slice A2 x.rs.length c2] 47))
  go_enter Tryz.func151, Tryz.ntmps151
  rcases Nat.eq_zero_or_pos i with h0 | h0
  · have p0 : (((i : Nat) : Int) == 0) = true := by simp [h0]
    have p1 : decide (((i : Nat) : Int) = 0) = true := by simp [h0]
    have HL := sA (show x.legTo v xs i = 0 by unfold Inst.legTo; rw [if_pos h0]); clear h0
    go_wp2
    go_ret
    exact ⟨by rw [HL.out]; rfl, HB.out⟩
  · have p0 : (((i : Nat) : Int) == 0) = false := by simp; omega
    have p1 : decide (((i : Nat) : Int) = 0) = false := by simp; omega
    have HL := sA (show x.legTo v xs i = x.leg (nodeAt v xs (i - 1)) (nodeAt v xs i) by unfold Inst.legTo; rw [if_neg (by omega)])
    obtain ⟨j, hj⟩ : ∃ j, i = j + 1 := ⟨i - 1, by omega⟩
    have q3 : IntKind.i64.wrap ((i : Int) - 1) = (j : Int) := by rw [IntWalk.i64_in _ (by omega)]; omega
    have HJ := sA (show i - 1 = j by omega); clear h0 hj
    rw [HJ.out] at HL
    go_wp2_with fail
    have z0 := blk_cell HA.out 0; have z1 := blk_cell HA.out 1; have z2 := blk_cell HA.out 2
    simp only [List.getElem?_toArray, List.getElem?_cons_zero, List.getElem?_cons_succ] at z0 z1 z2
    refine Grow.wp_region_growB (by kernel_rfl) (by kernel_rfl) ?_
    repeat ((first | (refine Grow.lex_skip (by rfl) ?_) | (refine Grow.lex_do _ (by rfl) (by intro W hj; have t0 := pC hj.out z0; have t1 := pC hj.out z1; have t2 := pC hj.out z2; go_simp; first | exact Grow.Upon.val hj | with_reducible exact Grow.Upon.callB hj (spec_nodeAt W v r xs (HS.out.below (bC HB.out hj.out)) j) | with_reducible exact Grow.Upon.callB hj (spec_nodeAt W v r xs (HS.out.below (bC HB.out hj.out)) i) | with_reducible exact Grow.Upon.callB hj (spec_leg W (.agg #[.slice A0 x.vs.length c0, .slice A1 x.qs.length c1, .slice A2 x.rs.length c2]) x (HX.out.below (bC HB.out hj.out)) (Inst.few_of HV.out).1 (Inst.few_of HV.out).2.1 (Inst.few_of HV.out).2.2 (Inst.near_of HV.out) (nodeAt v xs j) (nodeAt v xs i) (HO.out j).1 (HO.out j).2 (HO.out i).1 (HO.out i).2)) ?_)); refine Grow.lex_norm (fun K hK => ?_); go_simp; refine hK _ ?_; clear hK K)
    refine Grow.lex_nil (fun W hj => ?_)
    have HB1 := sA (bC HB.out hj.out); clear hj z0 z1 z2
    go_wp2
    go_ret
    exact ⟨by rw [HL.out]; rfl, HB1.out⟩
end
set_option maxRecDepth 100000 in
set_option maxHeartbeats 2000000 in
theorem spec_dist (v : Int) (x : Inst) (xs : List Int) (ho : x.route v xs) : ∀ (i : Nat) (hi : i ≤ 1048576) (w : World) (u r : Value) (hr : ReadInst w u x) (hs : ReadInts w r xs), Calls Tryz.prog 152 #[u, .int .i64 v, r, .int .i64 i] w fun e w' => e = .returned (.int .i64 (x.distTo v xs i)) ∧ Below w.heap.size w w' := by
  intro i
  induction i with
  | zero =>
    intro hi w u r hr hs
    obtain ⟨A0, c0, A1, c1, A2, c2, rfl, r0, r1, r2⟩ := hr
    clear r0 r1 r2
    have HB := sA (bA (Below.refl w.heap.size w) (.cells #[.slice A0 x.vs.length c0, .slice A1 x.qs.length c1, .slice A2 x.rs.length c2] 47))
    go_enter Tryz.func152, Tryz.ntmps152
    go_wp2
    go_ret
    exact ⟨rfl, HB.out⟩
  | succ j ih =>
    intro hi w u r hr hs
    have HO := sA ho; have HI := sA (ih (by omega)); clear ih
    have HX := sA hr; have HS := sA hs; clear hs
    obtain ⟨A0, c0, A1, c1, A2, c2, rfl, r0, r1, r2⟩ := hr
    clear r0 r1 r2
    have HB := sA (bA (Below.refl w.heap.size w) (.cells #[.slice A0 x.vs.length c0, .slice A1 x.qs.length c1, .slice A2 x.rs.length c2] 47)); have HA := sA (al_new w (.cells #[.slice A0 x.vs.length c0, .slice A1 x.qs.length c1, .slice A2 x.rs.length c2] 47))
    obtain ⟨i, hij⟩ : ∃ i, i = j + 1 := ⟨_, rfl⟩
    rw [← hij]
    have HL := sA (show x.distTo v xs i = satAdd (x.distTo v xs j) (x.legTo v xs i) by rw [hij]; rfl)
    have p0 : (((i : Nat) : Int) == 0) = false := by simp; omega
    have p1 : decide (((i : Nat) : Int) = 0) = false := by simp; omega
    have q3 : IntKind.i64.wrap ((i : Int) - 1) = (j : Int) := by rw [IntWalk.i64_in _ (by omega)]; omega
    have HM := sA (show i ≤ 1048576 by omega); clear hij hi ho
    go_enter Tryz.func152, Tryz.ntmps152
    go_wp2_with fail
    have z0 := blk_cell HA.out 0; have z1 := blk_cell HA.out 1; have z2 := blk_cell HA.out 2
    simp only [List.getElem?_toArray, List.getElem?_cons_zero, List.getElem?_cons_succ] at z0 z1 z2
    refine Grow.wp_region_growB (by kernel_rfl) (by kernel_rfl) ?_
    repeat ((first | (refine Grow.lex_skip (by rfl) ?_) | (refine Grow.lex_do _ (by rfl) (by intro W hj; have t0 := pC hj.out z0; have t1 := pC hj.out z1; have t2 := pC hj.out z2; go_simp; first | exact Grow.Upon.val hj | with_reducible exact Grow.Upon.callB hj (HI.out W (.agg #[.slice A0 x.vs.length c0, .slice A1 x.qs.length c1, .slice A2 x.rs.length c2]) r (HX.out.below (bC HB.out hj.out)) (HS.out.below (bC HB.out hj.out))) | with_reducible exact Grow.Upon.callB hj (spec_legTo W (.agg #[.slice A0 x.vs.length c0, .slice A1 x.qs.length c1, .slice A2 x.rs.length c2]) r x (HX.out.below (bC HB.out hj.out)) v xs (HS.out.below (bC HB.out hj.out)) HO.out i HM.out) | with_reducible exact Grow.Upon.callB hj ((spec_SatAdd W (x.distTo v xs j) (x.legTo v xs i)).mono fun e w' h => ⟨h.1, h.2 ▸ Below.refl _ _⟩)) ?_)); refine Grow.lex_norm (fun K hK => ?_); go_simp; refine hK _ ?_; clear hK K)
    refine Grow.lex_nil (fun W hj => ?_)
    have HB1 := sA (bC HB.out hj.out); clear hj z0 z1 z2
    go_wp2
    go_ret
    exact ⟨by rw [HL.out]; rfl, HB1.out⟩
end Go.Proofs.YtlhpbpkefkabgaaGreat.L1
namespace Go.Proofs.YtlhpbpkefkabgaaGreat.L1
open Go.RowKit Go.Proofs.YtlhpbpkefkabgaaGreatW.PrintWords Go.Proofs.YtlhpbpkefkabgaaGreat.B
set_option linter.unusedVariables false
set_option linter.unusedSimpArgs false
attribute [local go_sem] mk_cell mk_frozen
section
variable (w : World)
set_option maxRecDepth 100000 in
set_option maxHeartbeats 2000000 in
theorem spec_stop (u : Value) (x : Inst) (hr : ReadInst w u x) (hs : x.small) (n : Int) : Calls Tryz.prog 49 #[u, .int .i64 n] w fun e w' => e = .returned (.bool (inB n x.vs.length (x.nodes - 1))) ∧ Below w.heap.size w w' := by
  obtain ⟨A0, c0, A1, c1, A2, c2, rfl, r0, r1, r2⟩ := hr
  clear r0 r1 r2
  obtain ⟨n0, n1, n2⟩ := hs
  have HB := sA (bA (Below.refl w.heap.size w) (.cells #[.slice A0 x.vs.length c0, .slice A1 x.qs.length c1, .slice A2 x.rs.length c2] 47)); have HA := sA (al_new w (.cells #[.slice A0 x.vs.length c0, .slice A1 x.qs.length c1, .slice A2 x.rs.length c2] 47))
  go_enter Tryz.func49, Tryz.ntmps49
  go_wp2_with fail
  have q0 : IntKind.i64.wrap (x.nodes - 1) = x.nodes - 1 := IntWalk.i64_in _ (by unfold Inst.nodes; omega)
  have z0 := blk_cell HA.out 0; have z1 := blk_cell HA.out 1; have z2 := blk_cell HA.out 2
  simp only [List.getElem?_toArray, List.getElem?_cons_zero, List.getElem?_cons_succ] at z0 z1 z2
  refine Grow.wp_region_growB (by kernel_rfl) (by kernel_rfl) ?_
  repeat ((first | (refine Grow.lex_skip (by rfl) ?_) | (refine Grow.lex_do _ (by rfl) (by intro W hj; have t0 := pC hj.out z0; have t1 := pC hj.out z1; have t2 := pC hj.out z2; go_simp; first | exact Grow.Upon.val hj | (have c := spec_nodes W A0 A1 A2 x.vs.length x.qs.length x.rs.length c0 c1 c2 n0 n1; rw [show (x.vs.length : Int) + 2 * (x.qs.length : Int) = x.nodes from rfl] at c; with_reducible exact Grow.Upon.callB hj c) | with_reducible exact Grow.Upon.callB hj ((spec_l1In W n x.vs.length (x.nodes - 1)).mono fun e w' h => ⟨h.1, h.2 ▸ Below.refl _ _⟩)) ?_)); refine Grow.lex_norm (fun K hK => ?_); go_simp; refine hK _ ?_; clear hK K)
  refine Grow.lex_nil (fun W hj => ?_)
  have HB1 := sA (bC HB.out hj.out); clear hj z0 z1 z2
  go_wp2
  go_ret
  exact ⟨rfl, HB1.out⟩
end
end Go.Proofs.YtlhpbpkefkabgaaGreat.L1
namespace Go.Proofs.YtlhpbpkefkabgaaGreat.L1
open Go.RowKit Go.Proofs.YtlhpbpkefkabgaaGreatW.PrintWords Go.Proofs.YtlhpbpkefkabgaaGreat.B
set_option linter.unusedVariables false
set_option linter.unusedSimpArgs false
attribute [local go_sem] mk_cell mk_frozen
def Inst.stop (x : Inst) (n : Int) : Bool := inB n x.vs.length (x.nodes - 1)
def Inst.stops (x : Inst) (xs : List Int) : Bool := allI xs.length (fun k => x.stop (xs.getD k 0))
def Inst.routeOk (x : Inst) (v : Int) (xs : List Int) : Bool := x.valid && inB v 0 (x.vs.length - 1) && decide (xs.length ≤ 4096) && x.stops xs
theorem Inst.routeOk_iff {x : Inst} {v : Int} {xs : List Int} : x.routeOk v xs = true ↔ x.valid = true ∧ inB v 0 (x.vs.length - 1) = true ∧ xs.length ≤ 4096 ∧ x.stops xs = true := by
  unfold Inst.routeOk; simp only [Bool.and_eq_true, decide_eq_true_eq, and_assoc]
section
variable (w : World)
set_option maxRecDepth 100000 in
set_option maxHeartbeats 2000000 in
theorem spec_routeOk (u r : Value) (x : Inst) (hr : ReadInst w u x) (v : Int) (xs : List Int) (hs : ReadInts w r xs) : Calls Tryz.prog 41 #[u, .int .i64 v, r] w fun e w' => e = .returned (.bool (x.routeOk v xs)) ∧ Below w.heap.size w w' := by
  have HX := sA hr; have HS := sA hs
  obtain ⟨A0, c0, A1, c1, A2, c2, rfl, r0, r1, r2⟩ := hr
  clear r0 r1 r2
  obtain ⟨R, rc, rfl, hR⟩ := hs
  have hml := hR.2.1; have HR := sA hR; clear hR
  have HB := sA (bA (Below.refl w.heap.size w) (.cells #[.slice A0 x.vs.length c0, .slice A1 x.qs.length c1, .slice A2 x.rs.length c2] 47)); have HA := sA (al_new w (.cells #[.slice A0 x.vs.length c0, .slice A1 x.qs.length c1, .slice A2 x.rs.length c2] 47))
  go_enter Tryz.func41, Tryz.ntmps41
  go_wp2_with fail
  go_at_call 46
  refine (spec_validInst _ _ x (HX.out.below HB.out)).mono ?_
  rintro e w1 ⟨rfl, hb⟩
  have HB1 := sA (bC HB.out hb); have HA1 := sA (bB HA.out hb); clear hb
  cases hv : x.valid with
  | false =>
    have HV := sA (show x.routeOk v xs = false by unfold Inst.routeOk; rw [hv]; rfl); clear hv
    go_wp2
    go_ret
    exact ⟨by rw [HV.out]; rfl, HB1.out⟩
  | true =>
    have HV := sA hv; clear hv
    obtain ⟨f0, f1, f2⟩ := Inst.few_of HV.out
    have HS1 := sA (show x.small from ⟨by omega, by omega, by omega⟩)
    have q0 : IntKind.i64.wrap ((x.vs.length : Int) - 1) = (x.vs.length : Int) - 1 := IntWalk.i64_in _ (by omega)
    obtain ⟨b1, b2⟩ := lay0 HA1.out
    go_wp2_with fail
    clear b1 b2
    go_at_call 47
    refine (spec_l1In _ _ _ _).mono ?_
    rintro e w' ⟨rfl, rfl⟩
    cases hi : inB v 0 (x.vs.length - 1) with
    | false =>
      have HL := sA (show x.routeOk v xs = false by unfold Inst.routeOk; rw [hi]; simp); clear hi
      go_wp2
      go_ret
      exact ⟨by rw [HL.out]; rfl, HB1.out⟩
    | true =>
      have HI := sA hi; clear hi
      by_cases hl : 4096 < xs.length
      · have HL := sA (show x.routeOk v xs = false by unfold Inst.routeOk; rw [show decide (xs.length ≤ 4096) = false by simp; omega]; simp)
        have p0 : decide ((4096 : Int) < (xs.length : Int)) = true := by simp; omega
        go_wp2
        go_ret
        exact ⟨by rw [HL.out]; rfl, HB1.out⟩
      · have p0 : decide ((4096 : Int) < (xs.length : Int)) = false := by simp; omega
        go_wp2_with fail
        go_loopg [7] (xs.length + 1) (fun q v4 wr => ∃ k, q = xs.length + 1 - k ∧ k ≤ xs.length ∧ v4 = .int .i64 k ∧ Aside0 (∀ j, j < k → x.stop (xs.getD j 0) = true) ∧ Aside0 (Below w.heap.size w wr) ∧ Aside0 (wr.heap[w.heap.size]? = some (.cells #[.slice A0 x.vs.length c0, .slice A1 x.qs.length c1, .slice A2 x.rs.length c2] 47)))
        case atStart => exact ⟨0, by omega, by omega, rfl, ⟨fun j hj => absurd hj (Nat.not_lt_zero _)⟩, HB1, HA1⟩
        case round =>
          obtain ⟨k, rfl, hk, rfl, HP, HBk, HAk⟩ := hrel
          clear HB1 HA1
          by_cases hlt : k < xs.length
          · obtain ⟨ad, e0, t0, t1⟩ := Kd.flat_cells (d := kInt) rfl (Kd.C_below HR.out HBk.out) 0 k hlt
            cases e0
            have z3 := t0 _ rfl; simp only [Nat.mul_one] at z3
            clear t0 t1
            have HY := sA (show x.stop (xs.getD k 0) = inB (xs.getD k 0) x.vs.length (x.nodes - 1) from rfl)
            generalize hy : xs.getD k 0 = y at z3 HY
            have HYY := sA hy; clear hy
            have z0 := blk_cell HAk.out 0; have z1 := blk_cell HAk.out 1; have z2 := blk_cell HAk.out 2
            simp only [List.getElem?_toArray, List.getElem?_cons_zero, List.getElem?_cons_succ] at z0 z1 z2
            go_wp2_with fail
            refine Grow.wp_region_growB (by kernel_rfl) (by kernel_rfl) ?_
            repeat ((first | (refine Grow.lex_skip (by rfl) ?_) | (refine Grow.lex_do _ (by rfl) (by intro W hj; have t0 := pC hj.out z0; have t1 := pC hj.out z1; have t2 := pC hj.out z2; have t3 := pC hj.out z3; go_simp; first | exact Grow.Upon.val hj | with_reducible exact Grow.Upon.callB hj (spec_stop W (.agg #[.slice A0 x.vs.length c0, .slice A1 x.qs.length c1, .slice A2 x.rs.length c2]) x (HX.out.below (bC HBk.out hj.out)) HS1.out y)) ?_)); refine Grow.lex_norm (fun K hK => ?_); go_simp; refine hK _ ?_; clear hK K)
            refine Grow.lex_nil (fun W hj => ?_)
            have HB2 := sA (bC HBk.out hj.out); have HA2 := sA (bB HAk.out hj.out); clear hj z0 z1 z2 z3
            rw [← HY.out]
            cases hst : x.stop y with
            | false =>
              have HL := sA (show x.routeOk v xs = false by unfold Inst.routeOk; rw [show x.stops xs = false from allI_false hlt (by rw [HYY.out]; exact hst)]; simp); clear hst
              go_wp2
              go_ret
              exact ⟨by rw [HL.out]; rfl, HB2.out⟩
            | true =>
              have HP1 := sA (show ∀ j, j < k + 1 → x.stop (xs.getD j 0) = true from fun j hj => by
                rcases Nat.lt_or_ge j k with h | h
                · exact HP.out j h
                · rw [show j = k by omega, HYY.out]; exact hst); clear hst
              go_wp2
              go_roundg (xs.length + 1 - (k + 1))
              case measure => omega
              case rel => exact ⟨k + 1, rfl, hlt, by go_num, HP1, HB2, HA2⟩
          · have HL := sA (show x.routeOk v xs = true from Inst.routeOk_iff.2 ⟨HV.out, HI.out, by omega, allI_iff.2 fun j hj => HP.out j (by omega)⟩)
            go_wp2
            go_ret
            exact ⟨by rw [HL.out]; rfl, HBk.out⟩
end
end Go.Proofs.YtlhpbpkefkabgaaGreat.L1
namespace Go.Proofs.YtlhpbpkefkabgaaGreat.L1
open Go.RowKit Go.Proofs.YtlhpbpkefkabgaaGreatW.PrintWords Go.Proofs.YtlhpbpkefkabgaaGreat.B
set_option linter.unusedVariables false
set_option linter.unusedSimpArgs false
attribute [local go_sem] mk_cell mk_frozen
/-- What is asked of a closure over whole numbers: an answer, memory only made. -/
def PredB (g : Nat) (lb : Array Value) (p : Int → Bool) (w : World) : Prop :=
  ∀ (W : World) (n : Int), Below w.heap.size w W → Calls Tryz.prog g (#[.int .i64 n] ++ lb) W fun e w' => e = .returned (.bool (p n)) ∧ Below W.heap.size W w'
section
variable (w : World)
set_option maxHeartbeats 1000000 in
theorem indexFunc (g : Nat) (lb : Array Value) (eg : ∀ args w, (callFunc g args).run Tryz.prog w = .ok (.enter g args) w) (p : Int → Bool) (R : Option Addr) (rc : Nat) (xs : List Int) (hr : kInt.C w R xs.length xs) (hp : PredB g lb p w) :
    Calls Tryz.prog 119 #[.slice R xs.length rc, .func (.func g) #[] lb] w fun e w' => (∃ r : Int, e = .returned (.int .i64 r) ∧ decide (0 ≤ r) = !(allI xs.length fun k => !p (xs.getD k 0))) ∧ Below w.heap.size w w' := by
  have hml := hr.2.1
  have HR := sA hr; have HP := sA hp; clear hr hp
  go_enter Tryz.func119, Tryz.ntmps119
  go_wp2_with fail
  go_loopg [5, 8] (xs.length + 1) (fun q _ v8 wr => ∃ k, q = xs.length + 1 - k ∧ k ≤ xs.length ∧ v8 = .int .i64 k ∧ Aside0 (∀ j, j < k → p (xs.getD j 0) = false) ∧ Aside0 (Below w.heap.size w wr))
  case atStart => exact ⟨0, by omega, by omega, rfl, ⟨fun j hj => absurd hj (Nat.not_lt_zero _)⟩, ⟨Below.refl _ _⟩⟩
  case round =>
    obtain ⟨k, rfl, hk, rfl, HN, HB⟩ := hrel
    by_cases hlt : k < xs.length
    · obtain ⟨ad, e0, t0, t1⟩ := Kd.flat_cells (d := kInt) rfl (Kd.C_below HR.out HB.out) 0 k hlt
      cases e0
      have z3 := t0 _ rfl; simp only [Nat.mul_one] at z3
      clear t0 t1
      generalize hy : xs.getD k 0 = y at z3
      have HY := sA hy; clear hy
      have hcall := HP.out wr y HB.out
      cases hq : p y with
      | true =>
        rw [hq] at hcall
        have HL := sA (show (!(allI xs.length fun k => !p (xs.getD k 0))) = true by rw [allI_false hlt (by rw [HY.out, hq]; rfl)]; rfl)
        go_wp2_with fail
        refine hcall.mono ?_; rintro e w' ⟨rfl, hb⟩
        clear HP hcall
        go_wp2
        go_ret
        exact ⟨⟨(k : Int), rfl, by rw [HL.out]; simp⟩, bC HB.out hb⟩
      | false =>
        rw [hq] at hcall
        have HN1 := sA (show ∀ j, j < k + 1 → p (xs.getD j 0) = false from fun j hj => by
          rcases Nat.lt_or_ge j k with h | h
          · exact HN.out j h
          · rw [show j = k by omega, HY.out]; exact hq)
        go_wp2_with fail
        refine hcall.mono ?_; rintro e w' ⟨rfl, hb⟩
        clear HP hcall
        go_wp2
        have HB1 := sA (bC HB.out hb); clear hb
        go_roundg (xs.length + 1 - (k + 1))
        case measure => omega
        case rel => exact ⟨k + 1, rfl, hlt, by go_num, HN1, HB1⟩
    · have HL := sA (show (!(allI xs.length fun k => !p (xs.getD k 0))) = false by rw [allI_iff.2 fun j hj => by rw [HN.out j (by omega)]; rfl]; rfl)
      go_wp2
      go_ret
      exact ⟨⟨-1, rfl, by rw [HL.out]; rfl⟩, HB.out⟩
theorem containsFunc (g : Nat) (lb : Array Value) (eg : ∀ args w, (callFunc g args).run Tryz.prog w = .ok (.enter g args) w) (p : Int → Bool) (R : Option Addr) (rc : Nat) (xs : List Int) (hr : kInt.C w R xs.length xs) (hp : PredB g lb p w) :
    Calls Tryz.prog 81 #[.slice R xs.length rc, .func (.func g) #[] lb] w fun e w' => e = .returned (.bool (!(allI xs.length fun k => !p (xs.getD k 0)))) ∧ Below w.heap.size w w' := by
  have hc := indexFunc w g lb eg p R rc xs hr hp
  go_enter Tryz.func81, Tryz.ntmps81
  go_wp2_with (go_at_call 119; refine hc.mono ?_; rintro e w' ⟨⟨r, rfl, h0⟩, hb⟩; have H := sA h0; clear h0)
  go_ret
  exact ⟨by show Ending.returned (Value.bool (decide (0 ≤ r))) = _; rw [H.out], hb⟩
set_option maxRecDepth 100000 in
set_option maxHeartbeats 2000000 in
theorem impl_goodRoute1 (x : Inst) (hs : x.small) (n : Int) (B : Nat) (A0 A1 A2 : Option Addr) (c0 c1 c2 : Nat) (hB : w.heap[B]? = some (.cells #[.slice A0 x.vs.length c0, .slice A1 x.qs.length c1, .slice A2 x.rs.length c2] 47 (0, 0))) :
    Calls Tryz.prog 82 #[.int .i64 n, .pointer (some ⟨B, 0, none⟩)] w fun e w' => e = .returned (.bool (!x.stop n)) ∧ Below w.heap.size w w' := by
  have HS := sA hs
  obtain ⟨n0, n1, n2⟩ := hs
  have q0 : IntKind.i64.wrap (x.nodes - 1) = x.nodes - 1 := IntWalk.i64_in _ (by unfold Inst.nodes; omega)
  have z0 := blk_cell hB 0; have z1 := blk_cell hB 1; have z2 := blk_cell hB 2
  simp only [List.getElem?_toArray, List.getElem?_cons_zero, List.getElem?_cons_succ] at z0 z1 z2
  have HB := sA hB; clear hB
  go_enter Tryz.func82, Tryz.ntmps82
  go_wp2_with fail
  refine Grow.wp_region_growB (by kernel_rfl) (by kernel_rfl) ?_
  repeat ((first | (refine Grow.lex_skip (by rfl) ?_) | (refine Grow.lex_do _ (by rfl) (by intro W hj; have t0 := pC hj.out z0; have t1 := pC hj.out z1; have t2 := pC hj.out z2; go_simp; first | exact Grow.Upon.val hj | (have c := impl_nodes W A0 A1 A2 x.vs.length x.qs.length x.rs.length c0 c1 c2 n0 n1; rw [show (x.vs.length : Int) + 2 * (x.qs.length : Int) = x.nodes from rfl] at c; with_reducible exact Grow.Upon.callB hj c) | with_reducible exact Grow.Upon.callB hj (impl_vehicles W A0 A1 A2 x.vs.length x.qs.length x.rs.length c0 c1 c2 n0) | with_reducible exact Grow.Upon.callB hj ((impl_within W n x.vs.length (x.nodes - 1)).mono fun e w' h => ⟨h.1, h.2 ▸ Below.refl _ _⟩)) ?_)); refine Grow.lex_norm (fun K hK => ?_); go_simp; refine hK _ ?_; clear hK K)
  refine Grow.lex_nil (fun W hj => ?_)
  have HB1 := sA hj.out; clear hj z0 z1 z2
  go_wp2
  go_ret
  exact ⟨by unfold Inst.stop; cases inB n (x.vs.length) (x.nodes - 1) <;> rfl, HB1.out⟩
def Inst.roadOk (x : Inst) (xs : List Int) : Bool := decide (xs.length ≤ 4096) && x.stops xs
set_option maxRecDepth 100000 in
set_option maxHeartbeats 2000000 in
theorem impl_goodRoute (u r : Value) (x : Inst) (hr : ReadInst w u x) (hs : x.small) (xs : List Int) (hx : ReadInts w r xs) : Calls Tryz.prog 44 #[u, r] w fun e w' => e = .returned (.bool (x.roadOk xs)) ∧ Below w.heap.size w w' := by
  obtain ⟨A0, c0, A1, c1, A2, c2, rfl, r0, r1, r2⟩ := hr
  clear r0 r1 r2
  obtain ⟨R, rc, rfl, hR⟩ := hx
  have hml := hR.2.1
  have HB := sA (bA (Below.refl w.heap.size w) (.cells #[.slice A0 x.vs.length c0, .slice A1 x.qs.length c1, .slice A2 x.rs.length c2] 47)); have HA := sA (al_new w (.cells #[.slice A0 x.vs.length c0, .slice A1 x.qs.length c1, .slice A2 x.rs.length c2] 47))
  have eg : ∀ args w, (callFunc 82 args).run Tryz.prog w = .ok (.enter 82 args) w := enters_of Tryz.func82 (by kernel_rfl) rfl
  have hc := containsFunc (w.alloc (.cells #[.slice A0 x.vs.length c0, .slice A1 x.qs.length c1, .slice A2 x.rs.length c2] 47)) 82 #[.pointer (some ⟨w.heap.size, 0, none⟩)] eg (fun n => !x.stop n) R rc xs (Kd.C_below hR HB.out) (fun W n hb => impl_goodRoute1 W x hs n w.heap.size A0 A1 A2 c0 c1 c2 (bB HA.out hb))
  rw [show (allI xs.length fun k => !(fun n => !x.stop n) (xs.getD k 0)) = x.stops xs from allI_congr fun k hk => by simp] at hc
  have HC := sA hc; clear hc hR eg
  by_cases hl : xs.length ≤ 4096
  · have HL := sA (show x.roadOk xs = x.stops xs by unfold Inst.roadOk; rw [decide_eq_true hl]; rfl)
    have p0 : decide ((xs.length : Int) ≤ 4096) = true := by simp; omega
    go_enter Tryz.func44, Tryz.ntmps44
    go_wp2_with fail
    go_at_call 81
    refine HC.out.mono ?_
    rintro e w1 ⟨rfl, hb⟩
    have HB1 := sA (bC HB.out hb); clear hb
    cases hst : x.stops xs with
    | false =>
      have HT := sA hst; clear hst
      go_wp2
      go_ret
      exact ⟨by rw [HL.out, HT.out]; rfl, HB1.out⟩
    | true =>
      have HT := sA hst; clear hst
      go_wp2
      go_ret
      exact ⟨by rw [HL.out, HT.out]; rfl, HB1.out⟩
  · have HL := sA (show x.roadOk xs = false by unfold Inst.roadOk; rw [decide_eq_false hl]; rfl)
    have p0 : decide ((xs.length : Int) ≤ 4096) = false := by simp; omega
    go_enter Tryz.func44, Tryz.ntmps44
    go_wp2_with fail
    go_ret
    exact ⟨by rw [HL.out]; rfl, HB.out⟩
end
end Go.Proofs.YtlhpbpkefkabgaaGreat.L1
namespace Go.Proofs.YtlhpbpkefkabgaaGreat.L1
open Go.RowKit Go.Proofs.YtlhpbpkefkabgaaGreatW.PrintWords Go.Proofs.YtlhpbpkefkabgaaGreat.B
set_option linter.unusedVariables false
set_option linter.unusedSimpArgs false
attribute [local go_sem] mk_cell mk_frozen
def St.bare (s : St) : Bool := decide (s.node = 0) && decide (s.time = 0) && decide (s.dist = 0) && decide (s.load = 0) && decide (s.s0.length = 0) && decide (s.s1.length = 0) && decide (s.s2.length = 0)
def allIn (xs : List Int) (lo hi : Int) : Bool := allI xs.length (fun k => inB (xs.getD k 0) lo hi)
def placeOk (x : Inst) (v pos node : Int) : Bool := if 0 < pos then x.stop node else decide (node = v)
def St.runOk (c : Code) (x : Inst) (v : Int) (s : St) : Bool :=
  inB s.pos 0 4096 && placeOk x v s.pos s.node && inB s.time 0 1000000000 && inB s.dist 0 1000000000 && inB s.load (-1000000000) 1000000000 && decide ((s.s0.length : Int) = x.qs.length) && allIn s.s0 0 2 && decide ((s.s1.length : Int) = c.regs) && allIn s.s1 (-1000000000) 1000000000 && decide ((s.s2.length : Int) = c.slots * x.qs.length) && allIn s.s2 (-1000000000) 1000000000
def St.ok (c : Code) (x : Inst) (v : Int) (s : St) : Bool := if 0 ≤ s.rule then s.bare && inB s.pos 0 4097 && decide (s.rule ≤ 100) else if s.rule ≠ -1 then false else if s.pos = -1 then s.bare else s.runOk c x v
def askOk (c : Code) (x : Inst) (v : Int) : Bool := c.valid && x.valid && inB v 0 (x.vs.length - 1)
def stateOk (c : Code) (x : Inst) (v : Int) (s : St) : Bool := askOk c x v && s.ok c x v
section
variable (w : World)
set_option maxRecDepth 100000 in
set_option maxHeartbeats 2000000 in
theorem spec_bare (v : Value) (s : St) (hr : ReadState w v s) : Calls Tryz.prog 48 #[v] w fun e w' => e = .returned (.bool s.bare) ∧ Below w.heap.size w w' := by
  obtain ⟨S0, g0, S1, g1, S2, g2, rfl, r0, r1, r2⟩ := hr
  clear r0 r1 r2
  by_cases h0 : s.node = 0
  rotate_left
  · have p0 : (s.node == 0) = false := beq_eq_false_iff_ne.2 (by omega)
    have q0 : decide (s.node = 0) = false := decide_eq_false (by omega)
    have HL := sA (show s.bare = false by unfold St.bare; rw [decide_eq_false h0]; simp)
    clear h0
    go_enter Tryz.func48, Tryz.ntmps48
    go_wp2
    go_ret
    exact ⟨by rw [HL.out]; rfl, bA (Below.refl _ _) _⟩
  have p0 : (s.node == 0) = true := beq_iff_eq.2 (by omega)
  have q0 : decide (s.node = 0) = true := decide_eq_true (by omega)
  by_cases h1 : s.time = 0
  rotate_left
  · have p1 : (s.time == 0) = false := beq_eq_false_iff_ne.2 (by omega)
    have q1 : decide (s.time = 0) = false := decide_eq_false (by omega)
    have HL := sA (show s.bare = false by unfold St.bare; rw [decide_eq_false h1]; simp)
    clear h0 h1
    go_enter Tryz.func48, Tryz.ntmps48
    go_wp2
    go_ret
    exact ⟨by rw [HL.out]; rfl, bA (Below.refl _ _) _⟩
  have p1 : (s.time == 0) = true := beq_iff_eq.2 (by omega)
  have q1 : decide (s.time = 0) = true := decide_eq_true (by omega)
  by_cases h2 : s.dist = 0
  rotate_left
  · have p2 : (s.dist == 0) = false := beq_eq_false_iff_ne.2 (by omega)
    have q2 : decide (s.dist = 0) = false := decide_eq_false (by omega)
    have HL := sA (show s.bare = false by unfold St.bare; rw [decide_eq_false h2]; simp)
    clear h0 h1 h2
    go_enter Tryz.func48, Tryz.ntmps48
    go_wp2
    go_ret
    exact ⟨by rw [HL.out]; rfl, bA (Below.refl _ _) _⟩
  have p2 : (s.dist == 0) = true := beq_iff_eq.2 (by omega)
  have q2 : decide (s.dist = 0) = true := decide_eq_true (by omega)
  by_cases h3 : s.load = 0
  rotate_left
  · have p3 : (s.load == 0) = false := beq_eq_false_iff_ne.2 (by omega)
    have q3 : decide (s.load = 0) = false := decide_eq_false (by omega)
    have HL := sA (show s.bare = false by unfold St.bare; rw [decide_eq_false h3]; simp)
    clear h0 h1 h2 h3
    go_enter Tryz.func48, Tryz.ntmps48
    go_wp2
    go_ret
    exact ⟨by rw [HL.out]; rfl, bA (Below.refl _ _) _⟩
  have p3 : (s.load == 0) = true := beq_iff_eq.2 (by omega)
  have q3 : decide (s.load = 0) = true := decide_eq_true (by omega)
  by_cases h4 : s.s0.length = 0
  rotate_left
  · have p4 : ((s.s0.length : Int) == 0) = false := beq_eq_false_iff_ne.2 (by omega)
    have q4 : decide ((s.s0.length : Int) = 0) = false := decide_eq_false (by omega)
    have HL := sA (show s.bare = false by unfold St.bare; rw [decide_eq_false h4]; simp)
    clear h0 h1 h2 h3 h4
    go_enter Tryz.func48, Tryz.ntmps48
    go_wp2
    go_ret
    exact ⟨by rw [HL.out]; rfl, bA (Below.refl _ _) _⟩
  have p4 : ((s.s0.length : Int) == 0) = true := beq_iff_eq.2 (by omega)
  have q4 : decide ((s.s0.length : Int) = 0) = true := decide_eq_true (by omega)
  by_cases h5 : s.s1.length = 0
  rotate_left
  · have p5 : ((s.s1.length : Int) == 0) = false := beq_eq_false_iff_ne.2 (by omega)
    have q5 : decide ((s.s1.length : Int) = 0) = false := decide_eq_false (by omega)
    have HL := sA (show s.bare = false by unfold St.bare; rw [decide_eq_false h5]; simp)
    clear h0 h1 h2 h3 h4 h5
    go_enter Tryz.func48, Tryz.ntmps48
    go_wp2
    go_ret
    exact ⟨by rw [HL.out]; rfl, bA (Below.refl _ _) _⟩
  have p5 : ((s.s1.length : Int) == 0) = true := beq_iff_eq.2 (by omega)
  have q5 : decide ((s.s1.length : Int) = 0) = true := decide_eq_true (by omega)
  by_cases h6 : s.s2.length = 0
  rotate_left
  · have p6 : ((s.s2.length : Int) == 0) = false := beq_eq_false_iff_ne.2 (by omega)
    have q6 : decide ((s.s2.length : Int) = 0) = false := decide_eq_false (by omega)
    have HL := sA (show s.bare = false by unfold St.bare; rw [decide_eq_false h6]; simp)
    clear h0 h1 h2 h3 h4 h5 h6
    go_enter Tryz.func48, Tryz.ntmps48
    go_wp2
    go_ret
    exact ⟨by rw [HL.out]; rfl, bA (Below.refl _ _) _⟩
  have p6 : ((s.s2.length : Int) == 0) = true := beq_iff_eq.2 (by omega)
  have q6 : decide ((s.s2.length : Int) = 0) = true := decide_eq_true (by omega)
  have HL := sA (show s.bare = true by unfold St.bare; rw [decide_eq_true h0, decide_eq_true h1, decide_eq_true h2, decide_eq_true h3, decide_eq_true h4, decide_eq_true h5, decide_eq_true h6]; rfl)
  clear h0 h1 h2 h3 h4 h5 h6
  go_enter Tryz.func48, Tryz.ntmps48
  go_wp2
  go_ret
  exact ⟨by rw [HL.out]; rfl, bA (Below.refl _ _) _⟩
set_option maxRecDepth 100000 in
set_option maxHeartbeats 2000000 in
theorem spec_allIn (R : Option Addr) (rc : Nat) (xs : List Int) (hr : kInt.C w R xs.length xs) (lo hi : Int) : Calls Tryz.prog 50 #[.slice R xs.length rc, .int .i64 lo, .int .i64 hi] w fun e w' => e = .returned (.bool (allIn xs lo hi)) ∧ Below w.heap.size w w' := by
  have hml := hr.2.1; have HR := sA hr; clear hr
  go_enter Tryz.func50, Tryz.ntmps50
  go_wp2_with fail
  go_loopg [7] (xs.length + 1) (fun q v4 wr => ∃ k, q = xs.length + 1 - k ∧ k ≤ xs.length ∧ v4 = .int .i64 k ∧ Aside0 (∀ j, j < k → inB (xs.getD j 0) lo hi = true) ∧ Aside0 (Below w.heap.size w wr))
  case atStart => exact ⟨0, by omega, by omega, rfl, ⟨fun j hj => absurd hj (Nat.not_lt_zero _)⟩, ⟨Below.refl _ _⟩⟩
  case round =>
    obtain ⟨k, rfl, hk, rfl, HP, HB⟩ := hrel
    by_cases hlt : k < xs.length
    · obtain ⟨ad, e0, t0, t1⟩ := Kd.flat_cells (d := kInt) rfl (Kd.C_below HR.out HB.out) 0 k hlt
      cases e0
      have z3 := t0 _ rfl; simp only [Nat.mul_one] at z3
      clear t0 t1
      generalize hy : xs.getD k 0 = y at z3
      have HY := sA hy; clear hy
      go_wp2_with fail
      go_at_call 47
      refine (spec_l1In _ _ _ _).mono ?_
      rintro e w' ⟨rfl, rfl⟩
      cases hst : inB y lo hi with
      | false =>
        have HL := sA (show allIn xs lo hi = false from allI_false hlt (by rw [HY.out]; exact hst)); clear hst
        go_wp2
        go_ret
        exact ⟨by rw [HL.out]; rfl, HB.out⟩
      | true =>
        have HP1 := sA (show ∀ j, j < k + 1 → inB (xs.getD j 0) lo hi = true from fun j hj => by
          rcases Nat.lt_or_ge j k with h | h
          · exact HP.out j h
          · rw [show j = k by omega, HY.out]; exact hst); clear hst
        go_wp2
        go_roundg (xs.length + 1 - (k + 1))
        case measure => omega
        case rel => exact ⟨k + 1, rfl, hlt, by go_num, HP1, HB⟩
    · have HL := sA (show allIn xs lo hi = true from allI_iff.2 fun j hj => HP.out j (by omega))
      go_wp2
      go_ret
      exact ⟨by rw [HL.out]; rfl, HB.out⟩
end
end Go.Proofs.YtlhpbpkefkabgaaGreat.L1
