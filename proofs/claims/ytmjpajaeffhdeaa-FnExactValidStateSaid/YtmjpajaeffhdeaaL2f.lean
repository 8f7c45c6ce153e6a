/- What a route costs, as the program tells it. -/
import Derived.Test.YtmjpajaeffhdeaaL2e
namespace Go.Proofs.Ytmjpajaeffhdeaa.L1
open Go.RowKit Go.Proofs.YtmjpajaeffhdeaaW.PrintWords Go.Proofs.Ytmjpajaeffhdeaa.B
set_option linter.unusedVariables false
set_option linter.unusedSimpArgs false
attribute [local go_sem] mk_cell mk_frozen
section
variable (w : World)
set_option maxRecDepth 100000 in
set_option maxHeartbeats 2000000 in
theorem impl_cost (u r : Value) (x : Inst) (hr : ReadInst w u x) (v : Int) (xs : List Int) (hs : ReadInts w r xs) (ho : x.routeOk v xs = true) : Calls Try.prog 100 #[u, .int .i64 v, r] w fun e w' => e = .returned (.int .i64 (x.distTo v xs (xs.length + 1))) ∧ Below w.heap.size w w' := by
  have HL := Aside0.mk (Inst.routeOk_iff.1 ho).2.2.1; have HO := Aside0.mk (Inst.route_of ho); clear ho
  have HX := Aside0.mk hr; have HS := Aside0.mk hs
  obtain ⟨A0, c0, A1, c1, A2, c2, rfl, r0, r1, r2⟩ := hr
  clear r0 r1 r2
  obtain ⟨R, rc, rfl, hR⟩ := hs
  have hml := hR.2.1; have HR := Aside0.mk hR; clear hR
  have HB := Aside0.mk (below_alloc (Below.refl w.heap.size w) (.cells #[.slice A0 x.vs.length c0, .slice A1 x.qs.length c1, .slice A2 x.rs.length c2] 55)); have HA := Aside0.mk (al_new w (.cells #[.slice A0 x.vs.length c0, .slice A1 x.qs.length c1, .slice A2 x.rs.length c2] 55))
  go_enter Try.func100, Try.ntmps100
  go_wp2_with fail
  go_loopg [7, 8, 14] (xs.length + 1) (fun q v7 v8 v14 wr => ∃ k, q = xs.length + 1 - k ∧ k ≤ xs.length ∧ v7 = .int .i64 (x.distTo v xs k) ∧ v8 = .int .i64 (nodeAt v xs k) ∧ v14 = .int .i64 k ∧ Aside0 (Below w.heap.size w wr) ∧ Aside0 (wr.heap[w.heap.size]? = some (.cells #[.slice A0 x.vs.length c0, .slice A1 x.qs.length c1, .slice A2 x.rs.length c2] 55)))
  case atStart => exact ⟨0, by omega, by omega, rfl, by unfold nodeAt; rw [if_pos (.inl rfl)], rfl, HB, HA⟩
  case round =>
    obtain ⟨k, rfl, hk, rfl, rfl, rfl, HBk, HAk⟩ := hrel
    clear HB HA
    obtain ⟨b1, b2⟩ := lay (Below.refl _ _) HAk.out
    have hdist : x.distTo v xs (k + 1) = satAdd (x.distTo v xs k) (x.leg (nodeAt v xs k) (nodeAt v xs (k + 1))) := by
      show satAdd _ (x.legTo v xs (k + 1)) = _
      unfold Inst.legTo; rw [if_neg (by omega)]; rfl
    have HD := Aside0.mk hdist; clear hdist
    by_cases hlt : k < xs.length
    · obtain ⟨ad, e0, t0, t1⟩ := Kd.flat_cells (d := kInt) rfl (Kd.C_below HR.out HBk.out) 0 k hlt
      cases e0
      have z3 := t0 _ rfl; simp only [Nat.mul_one] at z3
      clear t0 t1
      have hn : xs.getD k 0 = nodeAt v xs (k + 1) := by unfold nodeAt; rw [if_neg (by omega)]; rfl
      rw [hn] at z3; clear hn
      generalize hy : nodeAt v xs (k + 1) = y at z3
      have HY := Aside0.mk hy; clear hy
      generalize hat : nodeAt v xs k = at_
      have HT := Aside0.mk hat; clear hat
      go_wp2_with fail
      clear b1 b2 z3
      go_at_call 95
      refine (impl_travel _ _ x (HX.out.below HBk.out) (Inst.few_of HO.out.1).1 (Inst.few_of HO.out.1).2.1 (Inst.few_of HO.out.1).2.2 (Inst.near_of HO.out.1) (Inst.sorted_of HO.out.1) at_ y (HT.out ▸ (HO.out.2 k).1) (HT.out ▸ (HO.out.2 k).2) (HY.out ▸ (HO.out.2 (k + 1)).1) (HY.out ▸ (HO.out.2 (k + 1)).2)).mono ?_
      rintro e w1 ⟨rfl, hb⟩
      have HB1 := Aside0.mk (bel_call HBk.out hb); have HA1 := Aside0.mk (blk_below HAk.out hb); clear hb
      go_wp2_with fail
      go_at_call 15
      refine (impl_SatAdd _ _ _).mono ?_
      rintro e w' ⟨rfl, rfl⟩
      go_wp2_with fail
      go_roundg (xs.length + 1 - (k + 1))
      case measure => omega
      case rel => exact ⟨k + 1, rfl, hlt, by rw [HD.out, HT.out, HY.out], by rw [HY.out], by go_num, HB1, HA1⟩
    · have hkl : k = xs.length := by omega
      have hl : nodeAt v xs (k + 1) = v := by unfold nodeAt; rw [if_pos (.inr (by omega))]
      rw [hl] at HD
      have hv0 : nodeAt v xs 0 = v := by unfold nodeAt; rw [if_pos (.inl rfl)]
      have HV := Aside0.mk hv0; clear hv0 hl
      generalize hat : nodeAt v xs k = at_ at HD
      have HT := Aside0.mk hat; clear hat
      have HK := Aside0.mk hkl; clear hkl
      go_wp2_with fail
      clear b1 b2
      go_at_call 95
      refine (impl_travel _ _ x (HX.out.below HBk.out) (Inst.few_of HO.out.1).1 (Inst.few_of HO.out.1).2.1 (Inst.few_of HO.out.1).2.2 (Inst.near_of HO.out.1) (Inst.sorted_of HO.out.1) at_ v (HT.out ▸ (HO.out.2 k).1) (HT.out ▸ (HO.out.2 k).2) (by have := (HO.out.2 0).1; rw [HV.out] at this; exact this) (by have := (HO.out.2 0).2; rw [HV.out] at this; exact this)).mono ?_
      rintro e w1 ⟨rfl, hb⟩
      have HB1 := Aside0.mk (bel_call HBk.out hb); clear hb
      go_wp2_with fail
      go_at_call 15
      refine (impl_SatAdd _ _ _).mono ?_
      rintro e w' ⟨rfl, rfl⟩
      go_wp2_with fail
      go_ret
      exact ⟨by rw [← HK.out, HD.out]; rfl, HB1.out⟩
theorem Inst.routeOk_road {x : Inst} {v : Int} {xs : List Int} : x.routeOk v xs = (x.valid && inB v 0 (x.vs.length - 1) && x.roadOk xs) := by
  unfold Inst.routeOk Inst.roadOk; rw [Bool.and_assoc]
set_option maxRecDepth 100000 in
set_option maxHeartbeats 2000000 in
theorem impl_Cost (u r : Value) (x : Inst) (hr : ReadInst w u x) (v : Int) (xs : List Int) (hs : ReadInts w r xs) : Calls Try.prog 46 #[u, .int .i64 v, r] w fun e w' => e = .returned (.int .i64 (x.cost v xs)) ∧ Below w.heap.size w w' := by
  have HX := Aside0.mk hr; have HS := Aside0.mk hs
  obtain ⟨A0, c0, A1, c1, A2, c2, rfl, r0, r1, r2⟩ := hr
  clear r0 r1 r2
  obtain ⟨R, rc, rfl, hR⟩ := hs
  have hml := hR.2.1; clear hR
  have HB := Aside0.mk (below_alloc (Below.refl w.heap.size w) (.cells #[.slice A0 x.vs.length c0, .slice A1 x.qs.length c1, .slice A2 x.rs.length c2] 55)); have HA := Aside0.mk (al_new w (.cells #[.slice A0 x.vs.length c0, .slice A1 x.qs.length c1, .slice A2 x.rs.length c2] 55))
  go_enter Try.func46, Try.ntmps46
  go_wp2_with fail
  go_at_call 40
  refine (impl_validInst _ _ x (HX.out.below HB.out)).mono ?_
  rintro e w1 ⟨rfl, hb⟩
  have HB1 := Aside0.mk (bel_call HB.out hb); have HA1 := Aside0.mk (blk_below HA.out hb); clear hb
  cases hv : x.valid with
  | false =>
    have HV := Aside0.mk (show x.cost v xs = -1 by unfold Inst.cost Inst.routeOk; rw [hv]; rfl); clear hv
    go_wp2
    go_ret
    exact ⟨by rw [HV.out]; rfl, HB1.out⟩
  | true =>
    have HV := Aside0.mk hv; clear hv
    obtain ⟨f0, f1, f2⟩ := Inst.few_of HV.out
    have HS1 := Aside0.mk (show x.small from ⟨by omega, by omega, by omega⟩)
    have q0 : IntKind.i64.wrap ((x.vs.length : Int) - 1) = (x.vs.length : Int) - 1 := IntWalk.i64_in _ (by omega)
    obtain ⟨b1, b2⟩ := lay (Below.refl _ _) HA1.out
    go_wp2_with fail
    clear b1 b2
    go_at_call 98
    refine (impl_vehicles _ A0 A1 A2 x.vs.length x.qs.length x.rs.length c0 c1 c2 HS1.out.1).mono ?_
    rintro e w2 ⟨rfl, hb⟩
    have HB2 := Aside0.mk (bel_call HB1.out hb); have HA2 := Aside0.mk (blk_below HA1.out hb); clear hb
    go_wp2_with fail
    go_at_call 59
    refine (impl_within _ _ _ _).mono ?_
    rintro e w' ⟨rfl, rfl⟩
    cases hi : inB v 0 (x.vs.length - 1) with
    | false =>
      have HL := Aside0.mk (show x.cost v xs = -1 by unfold Inst.cost Inst.routeOk; rw [hi]; simp); clear hi
      go_wp2
      go_ret
      exact ⟨by rw [HL.out]; rfl, HB2.out⟩
    | true =>
      have HI := Aside0.mk hi; clear hi
      obtain ⟨b1, b2⟩ := lay (Below.refl _ _) HA2.out
      go_wp2_with fail
      clear b1 b2
      go_at_call 99
      refine (impl_goodRoute _ _ _ x (HX.out.below HB2.out) HS1.out xs (HS.out.below HB2.out)).mono ?_
      rintro e w3 ⟨rfl, hb⟩
      have HB3 := Aside0.mk (bel_call HB2.out hb); have HA3 := Aside0.mk (blk_below HA2.out hb); clear hb
      cases hg : x.roadOk xs with
      | false =>
        have HL := Aside0.mk (show x.cost v xs = -1 by unfold Inst.cost; rw [Inst.routeOk_road, hg]; simp); clear hg
        go_wp2
        go_ret
        exact ⟨by rw [HL.out]; rfl, HB3.out⟩
      | true =>
        have hok : x.routeOk v xs = true := by rw [Inst.routeOk_road, hg, HV.out, HI.out]; rfl
        have HL := Aside0.mk (show x.cost v xs = x.distTo v xs (xs.length + 1) by unfold Inst.cost; rw [hok]; rfl); have HO := Aside0.mk hok; clear hok hg
        obtain ⟨b1, b2⟩ := lay (Below.refl _ _) HA3.out
        go_wp2_with fail
        clear b1 b2
        go_at_call 100
        refine (impl_cost _ _ _ x (HX.out.below HB3.out) v xs (HS.out.below HB3.out) HO.out).mono ?_
        rintro e w4 ⟨rfl, hb⟩
        have HB4 := Aside0.mk (bel_call HB3.out hb); clear hb
        go_wp2
        go_ret
        exact ⟨by rw [HL.out]; rfl, HB4.out⟩
end
end Go.Proofs.Ytmjpajaeffhdeaa.L1
