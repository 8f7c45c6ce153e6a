/- Is a route good, as the reference tells it; what it costs there. -/
import Derived.Test.YtmjpajaeffhdeaaL2c
namespace Go.Proofs.Ytmjpajaeffhdeaa.L1
open Go.RowKit Go.Proofs.YtmjpajaeffhdeaaW.PrintWords Go.Proofs.Ytmjpajaeffhdeaa.B
set_option linter.unusedVariables false
set_option linter.unusedSimpArgs false
attribute [local go_sem] mk_cell mk_frozen
def Inst.stop (x : Inst) (n : Int) : Bool := inB n x.vs.length (x.nodes - 1)
def Inst.stops (x : Inst) (xs : List Int) : Bool := allI xs.length (fun k => x.stop (xs.getD k 0))
def Inst.routeOk (x : Inst) (v : Int) (xs : List Int) : Bool := x.valid && inB v 0 (x.vs.length - 1) && decide (xs.length ≤ 4096) && x.stops xs
theorem Inst.routeOk_iff {x : Inst} {v : Int} {xs : List Int} : x.routeOk v xs = true ↔ x.valid = true ∧ inB v 0 (x.vs.length - 1) = true ∧ xs.length ≤ 4096 ∧ x.stops xs = true := by
  unfold Inst.routeOk; simp only [Bool.and_eq_true, decide_eq_true_eq, and_assoc]
theorem Inst.route_of {x : Inst} {v : Int} {xs : List Int} (h : x.routeOk v xs = true) : x.route v xs := by
  obtain ⟨h0, h1, h2, h3⟩ := Inst.routeOk_iff.1 h
  refine ⟨h0, fun i => ?_⟩
  rw [inB_iff] at h1
  have hn : x.nodes = x.vs.length + 2 * x.qs.length := rfl
  by_cases hi : i = 0 ∨ xs.length < i
  · unfold nodeAt; rw [if_pos hi]; omega
  · have := allI_iff.1 h3 (i - 1) (by omega)
    unfold Inst.stop at this
    rw [inB_iff] at this
    unfold nodeAt; rw [if_neg hi]; omega
def Inst.cost (x : Inst) (v : Int) (xs : List Int) : Int := if x.routeOk v xs then x.distTo v xs (xs.length + 1) else -1
section
variable (w : World)
set_option maxRecDepth 100000 in
set_option maxHeartbeats 2000000 in
theorem spec_routeOk (u r : Value) (x : Inst) (hr : ReadInst w u x) (v : Int) (xs : List Int) (hs : ReadInts w r xs) : Calls Try.prog 96 #[u, .int .i64 v, r] w fun e w' => e = .returned (.bool (x.routeOk v xs)) ∧ Below w.heap.size w w' := by
  have HX := Aside0.mk hr; have HS := Aside0.mk hs
  obtain ⟨A0, c0, A1, c1, A2, c2, rfl, r0, r1, r2⟩ := hr
  clear r0 r1 r2
  obtain ⟨R, rc, rfl, hR⟩ := hs
  have hml := hR.2.1; have HR := Aside0.mk hR; clear hR
  have HB := Aside0.mk (below_alloc (Below.refl w.heap.size w) (.cells #[.slice A0 x.vs.length c0, .slice A1 x.qs.length c1, .slice A2 x.rs.length c2] 55)); have HA := Aside0.mk (al_new w (.cells #[.slice A0 x.vs.length c0, .slice A1 x.qs.length c1, .slice A2 x.rs.length c2] 55))
  go_enter Try.func96, Try.ntmps96
  go_wp2_with fail
  go_at_call 38
  refine (spec_validInst _ _ x (HX.out.below HB.out)).mono ?_
  rintro e w1 ⟨rfl, hb⟩
  have HB1 := Aside0.mk (bel_call HB.out hb); have HA1 := Aside0.mk (blk_below HA.out hb); clear hb
  cases hv : x.valid with
  | false =>
    have HV := Aside0.mk (show x.routeOk v xs = false by unfold Inst.routeOk; rw [hv]; rfl); clear hv
    go_wp2
    go_ret
    exact ⟨by rw [HV.out]; rfl, HB1.out⟩
  | true =>
    have HV := Aside0.mk hv; clear hv
    obtain ⟨f0, f1, f2⟩ := Inst.few_of HV.out
    have HS1 := Aside0.mk (show x.small from ⟨by omega, by omega, by omega⟩)
    have q0 : IntKind.i64.wrap ((x.vs.length : Int) - 1) = (x.vs.length : Int) - 1 := IntWalk.i64_in _ (by omega)
    obtain ⟨b1, b2⟩ := lay (Below.refl _ _) HA1.out
    go_wp2_with fail
    clear b1 b2
    go_at_call 56
    refine (spec_l1In _ _ _ _).mono ?_
    rintro e w' ⟨rfl, rfl⟩
    cases hi : inB v 0 (x.vs.length - 1) with
    | false =>
      have HL := Aside0.mk (show x.routeOk v xs = false by unfold Inst.routeOk; rw [hi]; simp); clear hi
      go_wp2
      go_ret
      exact ⟨by rw [HL.out]; rfl, HB1.out⟩
    | true =>
      have HI := Aside0.mk hi; clear hi
      by_cases hl : 4096 < xs.length
      · have HL := Aside0.mk (show x.routeOk v xs = false by unfold Inst.routeOk; rw [show decide (xs.length ≤ 4096) = false by simp; omega]; simp)
        have p0 : decide ((4096 : Int) < (xs.length : Int)) = true := by simp; omega
        go_wp2
        go_ret
        exact ⟨by rw [HL.out]; rfl, HB1.out⟩
      · have p0 : decide ((4096 : Int) < (xs.length : Int)) = false := by simp; omega
        go_wp2_with fail
        go_loopg [7] (xs.length + 1) (fun q v4 wr => ∃ k, q = xs.length + 1 - k ∧ k ≤ xs.length ∧ v4 = .int .i64 k ∧ Aside0 (∀ j, j < k → x.stop (xs.getD j 0) = true) ∧ Aside0 (Below w.heap.size w wr) ∧ Aside0 (wr.heap[w.heap.size]? = some (.cells #[.slice A0 x.vs.length c0, .slice A1 x.qs.length c1, .slice A2 x.rs.length c2] 55)))
        case atStart => exact ⟨0, by omega, by omega, rfl, ⟨fun j hj => absurd hj (Nat.not_lt_zero _)⟩, HB1, HA1⟩
        case round =>
          obtain ⟨k, rfl, hk, rfl, HP, HBk, HAk⟩ := hrel
          clear HB1 HA1
          by_cases hlt : k < xs.length
          · obtain ⟨ad, e0, t0, t1⟩ := Kd.flat_cells (d := kInt) rfl (Kd.C_below HR.out HBk.out) 0 k hlt
            cases e0
            have z3 := t0 _ rfl; simp only [Nat.mul_one] at z3
            clear t0 t1
            have HY := Aside0.mk (show x.stop (xs.getD k 0) = inB (xs.getD k 0) x.vs.length (x.nodes - 1) from rfl)
            generalize hy : xs.getD k 0 = y at z3 HY
            have HYY := Aside0.mk hy; clear hy
            have z0 := blk_cell HAk.out 0; have z1 := blk_cell HAk.out 1; have z2 := blk_cell HAk.out 2
            simp only [List.getElem?_toArray, List.getElem?_cons_zero, List.getElem?_cons_succ] at z0 z1 z2
            go_wp2_with fail
            refine Grow.wp_region_growB (by kernel_rfl) (by kernel_rfl) ?_
            repeat ((first | (refine Grow.lex_skip (by rfl) ?_) | (refine Grow.lex_do _ (by rfl) (by intro W hj; have t0 := pw_cell_below hj.out z0; have t1 := pw_cell_below hj.out z1; have t2 := pw_cell_below hj.out z2; have t3 := pw_cell_below hj.out z3; go_simp; first | exact Grow.Upon.val hj | with_reducible exact Grow.Upon.callB hj (spec_stop W (.agg #[.slice A0 x.vs.length c0, .slice A1 x.qs.length c1, .slice A2 x.rs.length c2]) x (HX.out.below (bel_call HBk.out hj.out)) HS1.out y)) ?_)); refine Grow.lex_norm (fun K hK => ?_); go_simp; refine hK _ ?_; clear hK K)
            refine Grow.lex_nil (fun W hj => ?_)
            have HB2 := Aside0.mk (bel_call HBk.out hj.out); have HA2 := Aside0.mk (blk_below HAk.out hj.out); clear hj z0 z1 z2 z3
            rw [← HY.out]
            cases hst : x.stop y with
            | false =>
              have HL := Aside0.mk (show x.routeOk v xs = false by unfold Inst.routeOk; rw [show x.stops xs = false from allI_false hlt (by rw [HYY.out]; exact hst)]; simp); clear hst
              go_wp2
              go_ret
              exact ⟨by rw [HL.out]; rfl, HB2.out⟩
            | true =>
              have HP1 := Aside0.mk (show ∀ j, j < k + 1 → x.stop (xs.getD j 0) = true from fun j hj => by
                rcases Nat.lt_or_ge j k with h | h
                · exact HP.out j h
                · rw [show j = k by omega, HYY.out]; exact hst); clear hst
              go_wp2
              go_roundg (xs.length + 1 - (k + 1))
              case measure => omega
              case rel => exact ⟨k + 1, rfl, hlt, by go_num, HP1, HB2, HA2⟩
          · have HL := Aside0.mk (show x.routeOk v xs = true from Inst.routeOk_iff.2 ⟨HV.out, HI.out, by omega, allI_iff.2 fun j hj => HP.out j (by omega)⟩)
            go_wp2
            go_ret
            exact ⟨by rw [HL.out]; rfl, HBk.out⟩
set_option maxRecDepth 100000 in
set_option maxHeartbeats 2000000 in
theorem spec_l5Cost (u r : Value) (x : Inst) (hr : ReadInst w u x) (v : Int) (xs : List Int) (hs : ReadInts w r xs) (ho : x.routeOk v xs = true) : Calls Try.prog 97 #[u, .int .i64 v, r] w fun e w' => e = .returned (.int .i64 (x.distTo v xs (xs.length + 1))) ∧ Below w.heap.size w w' := by
  have HL := Aside0.mk (Inst.routeOk_iff.1 ho).2.2.1; have HO := Aside0.mk (Inst.route_of ho); clear ho
  have HX := Aside0.mk hr; have HS := Aside0.mk hs
  obtain ⟨A0, c0, A1, c1, A2, c2, rfl, r0, r1, r2⟩ := hr
  clear r0 r1 r2
  obtain ⟨R, rc, rfl, hR⟩ := hs
  have hml := hR.2.1; clear hR
  have HB := Aside0.mk (below_alloc (Below.refl w.heap.size w) (.cells #[.slice A0 x.vs.length c0, .slice A1 x.qs.length c1, .slice A2 x.rs.length c2] 55)); have HA := Aside0.mk (al_new w (.cells #[.slice A0 x.vs.length c0, .slice A1 x.qs.length c1, .slice A2 x.rs.length c2] 55))
  go_enter Try.func97, Try.ntmps97
  have q0 : IntKind.i64.wrap ((xs.length : Int) + 1) = ((xs.length + 1 : Nat) : Int) := by rw [IntWalk.i64_in _ (by have := HL.out; omega)]; omega
  go_wp2_with fail
  go_at_call 132
  refine (spec_dist v x xs HO.out (xs.length + 1) (by have := HL.out; omega) _ _ _ (HX.out.below HB.out) (HS.out.below HB.out)).mono ?_
  rintro e w1 ⟨rfl, hb⟩
  have HB1 := Aside0.mk (bel_call HB.out hb); clear hb
  go_wp2
  go_ret
  exact ⟨rfl, HB1.out⟩
theorem spec_Cost (u r : Value) (x : Inst) (hr : ReadInst w u x) (v : Int) (xs : List Int) (hs : ReadInts w r xs) : Calls Try.prog 44 #[u, .int .i64 v, r] w fun e w' => e = .returned (.int .i64 (x.cost v xs)) ∧ Below w.heap.size w w' := by
  have HX := Aside0.mk hr; have HS := Aside0.mk hs
  obtain ⟨A0, c0, A1, c1, A2, c2, rfl, r0, r1, r2⟩ := hr
  clear r0 r1 r2
  obtain ⟨R, rc, rfl, hR⟩ := hs
  have hml := hR.2.1; clear hR
  have HB := Aside0.mk (below_alloc (Below.refl w.heap.size w) (.cells #[.slice A0 x.vs.length c0, .slice A1 x.qs.length c1, .slice A2 x.rs.length c2] 55)); have HA := Aside0.mk (al_new w (.cells #[.slice A0 x.vs.length c0, .slice A1 x.qs.length c1, .slice A2 x.rs.length c2] 55))
  go_enter Try.func44, Try.ntmps44
  go_wp2_with fail
  go_at_call 96
  refine (spec_routeOk _ _ _ x (HX.out.below HB.out) v xs (HS.out.below HB.out)).mono ?_
  rintro e w1 ⟨rfl, hb⟩
  have HB1 := Aside0.mk (bel_call HB.out hb); have HA1 := Aside0.mk (blk_below HA.out hb); clear hb
  cases hv : x.routeOk v xs with
  | false =>
    have HV := Aside0.mk (show x.cost v xs = -1 by unfold Inst.cost; rw [hv]; rfl); clear hv
    go_wp2
    go_ret
    exact ⟨by rw [HV.out]; rfl, HB1.out⟩
  | true =>
    have HV := Aside0.mk (show x.cost v xs = x.distTo v xs (xs.length + 1) by unfold Inst.cost; rw [hv]; rfl); have HO := Aside0.mk hv; clear hv
    obtain ⟨b1, b2⟩ := lay (Below.refl _ _) HA1.out
    go_wp2_with fail
    clear b1 b2
    go_at_call 97
    refine (spec_l5Cost _ _ _ x (HX.out.below HB1.out) v xs (HS.out.below HB1.out) HO.out).mono ?_
    rintro e w2 ⟨rfl, hb⟩
    have HB2 := Aside0.mk (bel_call HB1.out hb); clear hb
    go_wp2
    go_ret
    exact ⟨by rw [HV.out]; rfl, HB2.out⟩
end
end Go.Proofs.Ytmjpajaeffhdeaa.L1
