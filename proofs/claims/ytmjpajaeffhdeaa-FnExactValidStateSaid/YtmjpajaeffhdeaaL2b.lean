/- What a route costs, as the reference tells it. -/
import Derived.Test.YtmjpajaeffhdeaaL2a
namespace Go.Proofs.Ytmjpajaeffhdeaa.L1
open Go.RowKit Go.Proofs.YtmjpajaeffhdeaaW.PrintWords Go.Proofs.Ytmjpajaeffhdeaa.B
set_option linter.unusedVariables false
set_option linter.unusedSimpArgs false
attribute [local go_sem] mk_cell mk_frozen
def nodeAt (v : Int) (xs : List Int) (i : Nat) : Int := if i = 0 ∨ xs.length < i then v else xs.getD (i - 1) 0
def Inst.legTo (x : Inst) (v : Int) (xs : List Int) (i : Nat) : Int := if i = 0 then 0 else x.leg (nodeAt v xs (i - 1)) (nodeAt v xs i)
def Inst.distTo (x : Inst) (v : Int) (xs : List Int) : Nat → Int
  | 0 => 0
  | i + 1 => satAdd (x.distTo v xs i) (x.legTo v xs (i + 1))
section
variable (w : World)
theorem spec_nodeAt (v : Int) (r : Value) (xs : List Int) (hr : ReadInts w r xs) (i : Nat) : Calls Try.prog 169 #[.int .i64 v, r, .int .i64 i] w fun e w' => e = .returned (.int .i64 (nodeAt v xs i)) ∧ Below w.heap.size w w' := by
  obtain ⟨A, c, rfl, h0⟩ := hr
  rcases Nat.eq_zero_or_pos i with hi | hi
  · have hn : nodeAt v xs i = v := by unfold nodeAt; rw [if_pos (.inl hi)]
    have p0 : (((i : Nat) : Int) == 0) = true := by simp [hi]
    have p1 : decide (((i : Nat) : Int) = 0) = true := by simp [hi]
    have HH := Aside0.mk hn; clear hn h0
    go_enter Try.func169, Try.ntmps169
    go_wp2
    go_ret
    exact ⟨by rw [HH.out]; rfl, Below.refl _ _⟩
  · have p0 : (((i : Nat) : Int) == 0) = false := by simp; omega
    have p1 : decide (((i : Nat) : Int) = 0) = false := by simp; omega
    rcases Nat.lt_or_ge xs.length i with hl | hl
    · have hn : nodeAt v xs i = v := by unfold nodeAt; rw [if_pos (.inr hl)]
      have p2 : decide ((xs.length : Int) < (i : Int)) = true := by simp; omega
      have HH := Aside0.mk hn; clear hn h0
      go_enter Try.func169, Try.ntmps169
      go_wp2
      go_ret
      exact ⟨by rw [HH.out]; rfl, Below.refl _ _⟩
    · have hn : nodeAt v xs i = xs.getD (i - 1) 0 := by unfold nodeAt; rw [if_neg (by omega)]
      have p2 : decide ((xs.length : Int) < (i : Int)) = false := by simp; omega
      obtain ⟨ad, e0, t0, t1⟩ := Kd.flat_cells (d := kInt) rfl h0 0 (i - 1) (by omega)
      cases e0
      have c0 := t0 _ rfl; simp only [Nat.mul_one] at c0
      have hml := h0.2.1
      generalize xs.getD (i - 1) 0 = y at c0 hn
      have HH := Aside0.mk hn; clear hn h0 t0 t1
      have q0 : (i : Int) - 1 < (xs.length : Int) := by omega
      have q1 : (0 : Int) ≤ (i : Int) - 1 := by omega
      have q2 : (1 : Int) ≤ (i : Int) := by omega
      have q3 : IntKind.i64.wrap ((i : Int) - 1) = (i : Int) - 1 := IntWalk.i64_in _ (by omega)
      have q4 : ((i : Int) - 1).toNat = i - 1 := by omega
      go_enter Try.func169, Try.ntmps169
      go_wp2
      go_ret
      exact ⟨by rw [HH.out]; rfl, Below.refl _ _⟩
def Inst.route (x : Inst) (v : Int) (xs : List Int) : Prop := x.valid = true ∧ ∀ i, 0 ≤ nodeAt v xs i ∧ nodeAt v xs i < x.nodes
set_option maxRecDepth 100000 in
set_option maxHeartbeats 2000000 in
theorem spec_legTo (u r : Value) (x : Inst) (hr : ReadInst w u x) (v : Int) (xs : List Int) (hs : ReadInts w r xs) (ho : x.route v xs) (i : Nat) (hi : i ≤ 1048576) : Calls Try.prog 152 #[u, .int .i64 v, r, .int .i64 i] w fun e w' => e = .returned (.int .i64 (x.legTo v xs i)) ∧ Below w.heap.size w w' := by
  have HV := Aside0.mk ho.1; have HO := Aside0.mk ho.2; clear ho
  have HX := Aside0.mk hr; have HS := Aside0.mk hs; clear hs
  obtain ⟨A0, c0, A1, c1, A2, c2, rfl, r0, r1, r2⟩ := hr
  clear r0 r1 r2
  have HB := Aside0.mk (below_alloc (Below.refl w.heap.size w) (.cells #[.slice A0 x.vs.length c0, .slice A1 x.qs.length c1, .slice A2 x.rs.length c2] 55)); have HA := Aside0.mk (al_new w (.cells #[.slice A0 x.vs.length c0, .slice A1 x.qs.length c1, .slice A2 x.rs.length c2] 55))
  go_enter Try.func152, Try.ntmps152
  rcases Nat.eq_zero_or_pos i with h0 | h0
  · have p0 : (((i : Nat) : Int) == 0) = true := by simp [h0]
    have p1 : decide (((i : Nat) : Int) = 0) = true := by simp [h0]
    have HL := Aside0.mk (show x.legTo v xs i = 0 by unfold Inst.legTo; rw [if_pos h0]); clear h0
    go_wp2
    go_ret
    exact ⟨by rw [HL.out]; rfl, HB.out⟩
  · have p0 : (((i : Nat) : Int) == 0) = false := by simp; omega
    have p1 : decide (((i : Nat) : Int) = 0) = false := by simp; omega
    have HL := Aside0.mk (show x.legTo v xs i = x.leg (nodeAt v xs (i - 1)) (nodeAt v xs i) by unfold Inst.legTo; rw [if_neg (by omega)])
    obtain ⟨j, hj⟩ : ∃ j, i = j + 1 := ⟨i - 1, by omega⟩
    have q3 : IntKind.i64.wrap ((i : Int) - 1) = (j : Int) := by rw [IntWalk.i64_in _ (by omega)]; omega
    have HJ := Aside0.mk (show i - 1 = j by omega); clear h0 hj
    rw [HJ.out] at HL
    go_wp2_with fail
    have z0 := blk_cell HA.out 0; have z1 := blk_cell HA.out 1; have z2 := blk_cell HA.out 2
    simp only [List.getElem?_toArray, List.getElem?_cons_zero, List.getElem?_cons_succ] at z0 z1 z2
    refine Grow.wp_region_growB (by kernel_rfl) (by kernel_rfl) ?_
    repeat ((first | (refine Grow.lex_skip (by rfl) ?_) | (refine Grow.lex_do _ (by rfl) (by intro W hj; have t0 := pw_cell_below hj.out z0; have t1 := pw_cell_below hj.out z1; have t2 := pw_cell_below hj.out z2; go_simp; first | exact Grow.Upon.val hj | with_reducible exact Grow.Upon.callB hj (spec_nodeAt W v r xs (HS.out.below (bel_call HB.out hj.out)) j) | with_reducible exact Grow.Upon.callB hj (spec_nodeAt W v r xs (HS.out.below (bel_call HB.out hj.out)) i) | with_reducible exact Grow.Upon.callB hj (spec_leg W (.agg #[.slice A0 x.vs.length c0, .slice A1 x.qs.length c1, .slice A2 x.rs.length c2]) x (HX.out.below (bel_call HB.out hj.out)) (Inst.few_of HV.out).1 (Inst.few_of HV.out).2.1 (Inst.few_of HV.out).2.2 (Inst.near_of HV.out) (nodeAt v xs j) (nodeAt v xs i) (HO.out j).1 (HO.out j).2 (HO.out i).1 (HO.out i).2)) ?_)); refine Grow.lex_norm (fun K hK => ?_); go_simp; refine hK _ ?_; clear hK K)
    refine Grow.lex_nil (fun W hj => ?_)
    have HB1 := Aside0.mk (bel_call HB.out hj.out); clear hj z0 z1 z2
    go_wp2
    go_ret
    exact ⟨by rw [HL.out]; rfl, HB1.out⟩
end
set_option maxRecDepth 100000 in
set_option maxHeartbeats 2000000 in
theorem spec_dist (v : Int) (x : Inst) (xs : List Int) (ho : x.route v xs) : ∀ (i : Nat) (hi : i ≤ 1048576) (w : World) (u r : Value) (hr : ReadInst w u x) (hs : ReadInts w r xs), Calls Try.prog 132 #[u, .int .i64 v, r, .int .i64 i] w fun e w' => e = .returned (.int .i64 (x.distTo v xs i)) ∧ Below w.heap.size w w' := by
  intro i
  induction i with
  | zero =>
    intro hi w u r hr hs
    obtain ⟨A0, c0, A1, c1, A2, c2, rfl, r0, r1, r2⟩ := hr
    clear r0 r1 r2
    have HB := Aside0.mk (below_alloc (Below.refl w.heap.size w) (.cells #[.slice A0 x.vs.length c0, .slice A1 x.qs.length c1, .slice A2 x.rs.length c2] 55))
    go_enter Try.func132, Try.ntmps132
    go_wp2
    go_ret
    exact ⟨rfl, HB.out⟩
  | succ j ih =>
    intro hi w u r hr hs
    have HO := Aside0.mk ho; have HI := Aside0.mk (ih (by omega)); clear ih
    have HX := Aside0.mk hr; have HS := Aside0.mk hs; clear hs
    obtain ⟨A0, c0, A1, c1, A2, c2, rfl, r0, r1, r2⟩ := hr
    clear r0 r1 r2
    have HB := Aside0.mk (below_alloc (Below.refl w.heap.size w) (.cells #[.slice A0 x.vs.length c0, .slice A1 x.qs.length c1, .slice A2 x.rs.length c2] 55)); have HA := Aside0.mk (al_new w (.cells #[.slice A0 x.vs.length c0, .slice A1 x.qs.length c1, .slice A2 x.rs.length c2] 55))
    obtain ⟨i, hij⟩ : ∃ i, i = j + 1 := ⟨_, rfl⟩
    rw [← hij]
    have HL := Aside0.mk (show x.distTo v xs i = satAdd (x.distTo v xs j) (x.legTo v xs i) by rw [hij]; rfl)
    have p0 : (((i : Nat) : Int) == 0) = false := by simp; omega
    have p1 : decide (((i : Nat) : Int) = 0) = false := by simp; omega
    have q3 : IntKind.i64.wrap ((i : Int) - 1) = (j : Int) := by rw [IntWalk.i64_in _ (by omega)]; omega
    have HM := Aside0.mk (show i ≤ 1048576 by omega); clear hij hi ho
    go_enter Try.func132, Try.ntmps132
    go_wp2_with fail
    have z0 := blk_cell HA.out 0; have z1 := blk_cell HA.out 1; have z2 := blk_cell HA.out 2
    simp only [List.getElem?_toArray, List.getElem?_cons_zero, List.getElem?_cons_succ] at z0 z1 z2
    refine Grow.wp_region_growB (by kernel_rfl) (by kernel_rfl) ?_
    repeat ((first | (refine Grow.lex_skip (by rfl) ?_) | (refine Grow.lex_do _ (by rfl) (by intro W hj; have t0 := pw_cell_below hj.out z0; have t1 := pw_cell_below hj.out z1; have t2 := pw_cell_below hj.out z2; go_simp; first | exact Grow.Upon.val hj | with_reducible exact Grow.Upon.callB hj (HI.out W (.agg #[.slice A0 x.vs.length c0, .slice A1 x.qs.length c1, .slice A2 x.rs.length c2]) r (HX.out.below (bel_call HB.out hj.out)) (HS.out.below (bel_call HB.out hj.out))) | with_reducible exact Grow.Upon.callB hj (spec_legTo W (.agg #[.slice A0 x.vs.length c0, .slice A1 x.qs.length c1, .slice A2 x.rs.length c2]) r x (HX.out.below (bel_call HB.out hj.out)) v xs (HS.out.below (bel_call HB.out hj.out)) HO.out i HM.out) | with_reducible exact Grow.Upon.callB hj ((spec_SatAdd W (x.distTo v xs j) (x.legTo v xs i)).mono fun e w' h => ⟨h.1, h.2 ▸ Below.refl _ _⟩)) ?_)); refine Grow.lex_norm (fun K hK => ?_); go_simp; refine hK _ ?_; clear hK K)
    refine Grow.lex_nil (fun W hj => ?_)
    have HB1 := Aside0.mk (bel_call HB.out hj.out); clear hj z0 z1 z2
    go_wp2
    go_ret
    exact ⟨by rw [HL.out]; rfl, HB1.out⟩
end Go.Proofs.Ytmjpajaeffhdeaa.L1
