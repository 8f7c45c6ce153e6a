/- The law FnExactValidInst: what came in is opened, and the law's own walk. -/
import Derived.Test.YtmjpajaeffhdeaaL1g
import Derived.Test.YtmjpajaeffhdeaaO0
namespace Go.Proofs.Ytmjpajaeffhdeaa.L1
open Go.RowKit Go.Proofs.YtmjpajaeffhdeaaW.PrintWords Go.Proofs.Ytmjpajaeffhdeaa.B
set_option linter.unusedVariables false
set_option linter.unusedSimpArgs false
attribute [local go_sem] mk_cell mk_frozen
section
variable {H : Type} {enc : TypeId × Value → H} {w : World} {base : Nat} {spare : Nat → Bool} {held : Bool}
theorem open_veh (n : Nat) (cs : List Value) (x : DataW H × List MemPlace) (h : DataW.trod enc Try.prog w base spare held n 155 cs = some x) : ∃ y : Veh, kVeh.K w y cs := by
  obtain ⟨zs, hl, rfl⟩ := Open.flat_ints 3 _ 7 n cs x (by kernel_rfl) h
  match zs, hl with
  | [a0, a1, a2, a3, a4, a5, a6], _ => exact ⟨⟨a0, a1, ⟨a2, a3, a4, a5, a6⟩⟩, rfl⟩
theorem open_req (n : Nat) (cs : List Value) (x : DataW H × List MemPlace) (h : DataW.trod enc Try.prog w base spare held n 158 cs = some x) : ∃ y : Req, kReq.K w y cs := by
  obtain ⟨zs, hl, rfl⟩ := Open.flat_ints 3 _ 12 n cs x (by kernel_rfl) h
  match zs, hl with
  | [a0, a1, a2, a3, a4, a5, a6, a7, a8, a9, a10, a11], _ => exact ⟨⟨a0, a1, ⟨a2, a3, a4, a5, a6⟩, ⟨a7, a8, a9, a10, a11⟩⟩, rfl⟩
theorem open_road (n : Nat) (cs : List Value) (x : DataW H × List MemPlace) (h : DataW.trod enc Try.prog w base spare held n 160 cs = some x) : ∃ y : Road, kRoad.K w y cs := by
  obtain ⟨zs, hl, rfl⟩ := Open.flat_ints 3 _ 3 n cs x (by kernel_rfl) h
  match zs, hl with
  | [a0, a1, a2], _ => exact ⟨⟨a0, a1, a2⟩, rfl⟩
set_option maxRecDepth 100000 in
/-- An instance that came in, by value. -/
theorem open_inst {r : Reach} {b0 : Nat} {v : Value} {d : DataW H} {p : List MemPlace} (hv : Value.okWide Try.prog w r b0 48 v) (h : DataW.Trod enc Try.prog w base spare held 48 v d p) : ∃ x, ReadInst w v x := by
  obtain ⟨v0, v1, v2, y0, y1, y2, n, rfl, rfl, rfl, h0, h1, h2⟩ := Joins.open_agg3 (Try.underlying48) (by kernel_rfl) (by kernel_rfl) hv h
  obtain ⟨A0, c0, vs, e0, r0⟩ := Open.open_C kVeh (Try.underlying44) (by kernel_rfl) open_veh h0
  obtain ⟨A1, c1, qs, e1, r1⟩ := Open.open_C kReq (Try.underlying45) (by kernel_rfl) open_req h1
  obtain ⟨A2, c2, rs, e2, r2⟩ := Open.open_C kRoad (Try.underlying46) (by kernel_rfl) open_road h2
  simp only [List.cons.injEq, and_true] at e0 e1 e2
  subst e0 e1 e2
  exact ⟨⟨vs, qs, rs⟩, A0, c0, A1, c1, A2, c2, rfl, r0, r1, r2⟩
end
theorem bel6 {w W : World} {a0 a1 a2 a3 a4 a5 : Addr} {v0 v1 v2 v3 v4 v5 : Value} (h : W.cell? a0 = some v0 ∧ W.cell? a1 = some v1 ∧ W.cell? a2 = some v2 ∧ W.cell? a3 = some v3 ∧ W.cell? a4 = some v4 ∧ W.cell? a5 = some v5 ∧ Below w.heap.size w W) : Below w.heap.size w W := h.2.2.2.2.2.2
section
variable (w : World)
set_option maxRecDepth 100000 in
set_option maxHeartbeats 1000000 in
theorem law_validInst (v : Value) (x : Inst) (hr : ReadInst w v x) : Calls Try.prog 10 #[v] w fun e w' => e = .returned (.bool true) ∧ Below w.heap.size w w' := by
  have hr' := hr
  obtain ⟨A0, c0, A1, c1, A2, c2, rfl, r0, r1, r2⟩ := hr'
  clear r0 r1 r2
  have HR := Aside0.mk hr; clear hr
  have HA := Aside0.mk (al_new w (.cells #[.slice A0 x.vs.length c0, .slice A1 x.qs.length c1, .slice A2 x.rs.length c2] 48))
  have HB := Aside0.mk (below_alloc (Below.refl w.heap.size w) (.cells #[.slice A0 x.vs.length c0, .slice A1 x.qs.length c1, .slice A2 x.rs.length c2] 48))
  go_enter Try.func10, Try.ntmps10
  go_wp2_with fail
  go_at_call 37
  refine (szInst _ _ x 1048576 (by omega) (by omega) (HR.out.below HB.out)).mono ?_
  rintro e w2 ⟨⟨r, rfl, hr⟩, hb⟩
  have HB1 := Aside0.mk (bel_call HB.out hb); have HA1 := Aside0.mk (blk_below HA.out hb); clear hb HA HB
  rcases hr with rfl | ⟨hr0, hr1, hs⟩
  · go_wp2
    go_ret
    exact ⟨rfl, HB1.out⟩
  have HS := Aside0.mk hs; clear hs
  have hd : decide (r < 0) = false := by simp; omega
  obtain ⟨b1, b2⟩ := lay (Below.refl _ _) HA1.out
  go_wp2_with fail
  clear b1 b2
  go_at_call 39
  refine (toInst _ _ x (HR.out.below HB1.out) HS.out).mono ?_
  rintro e w3 ⟨u, rfl, ho, hb⟩
  have HB2 := Aside0.mk (bel_call HB1.out hb); have HA2 := Aside0.mk (blk_below HA1.out hb); clear hb HA1 HB1
  have HX := Aside0.mk ho.read; clear ho
  go_wp2_with fail
  go_at_call 38
  refine (spec_validInst _ _ x HX.out).mono ?_
  rintro e w4 ⟨rfl, hb⟩
  have HB3 := Aside0.mk (bel_call HB2.out hb); have HA3 := Aside0.mk (blk_below HA2.out hb); clear hb HA2 HB2 HX
  obtain ⟨b1, b2⟩ := lay (Below.refl _ _) HA3.out
  go_wp2_with fail
  clear b1 b2
  go_at_call 39
  refine (toInst _ _ x (HR.out.below HB3.out) HS.out).mono ?_
  rintro e w5 ⟨u5, rfl, ho, hb⟩
  have HB4 := Aside0.mk (bel_call HB3.out hb); have HA4 := Aside0.mk (blk_below HA3.out hb); clear hb HA3 HB3
  obtain ⟨B0, d0, B1, d1, B2, d2, rfl, t0, t1, t2⟩ := ho.read
  clear ho
  have HX := Aside0.mk (show ReadInst w5 (.agg #[.slice B0 x.vs.length d0, .slice B1 x.qs.length d1, .slice B2 x.rs.length d2]) x from ⟨_, _, _, _, _, _, rfl, t0, t1, t2⟩); clear t0 t1 t2
  go_wp2_with fail
  have HB5 := Aside0.mk (bel_box HB4.out (.cells #[.slice B0 x.vs.length d0, .slice B1 x.qs.length d1, .slice B2 x.rs.length d2] 55))
  have HA5 := Aside0.mk (blk_box HA4.out (.cells #[.slice B0 x.vs.length d0, .slice B1 x.qs.length d1, .slice B2 x.rs.length d2] 55))
  have HV5 := Aside0.mk (al_new w5 (.cells #[.slice B0 x.vs.length d0, .slice B1 x.qs.length d1, .slice B2 x.rs.length d2] 55))
  have HX5 := Aside0.mk (HX.out.below (below_alloc (Below.refl w5.heap.size w5) (.cells #[.slice B0 x.vs.length d0, .slice B1 x.qs.length d1, .slice B2 x.rs.length d2] 55)))
  clear HA4 HB4 HX
  go_at_call 40
  refine (impl_validInst _ _ x HX5.out).mono ?_
  rintro e w6 ⟨rfl, hb⟩
  have HB6 := Aside0.mk (bel_call HB5.out hb); have HA6 := Aside0.mk (blk_below HA5.out hb); have HV6 := Aside0.mk (blk_below HV5.out hb); have HX6 := Aside0.mk (HX5.out.below hb); clear hb HA5 HB5 HX5 HV5
  go_wp2_with fail
  go_region_held3 (fun w' => w'.cell? ⟨w.heap.size, 0, none⟩ = some (.slice A0 x.vs.length c0) ∧ w'.cell? ⟨w.heap.size, 1, none⟩ = some (.slice A1 x.qs.length c1) ∧ w'.cell? ⟨w.heap.size, 2, none⟩ = some (.slice A2 x.rs.length c2) ∧ w'.cell? ⟨w5.heap.size, 0, none⟩ = some (.slice B0 x.vs.length d0) ∧ w'.cell? ⟨w5.heap.size, 1, none⟩ = some (.slice B1 x.qs.length d1) ∧ w'.cell? ⟨w5.heap.size, 2, none⟩ = some (.slice B2 x.rs.length d2) ∧ Below w6.heap.size w6 w')
    (first | exact ⟨blk_cell HA6.out 0, blk_cell HA6.out 1, blk_cell HA6.out 2, blk_cell HV6.out 0, blk_cell HV6.out 1, blk_cell HV6.out 2, below_drew (Below.refl _ _)⟩ | exact keepC6 (by assumption) hb2 | exact keepC6 (by assumption) hb3)
    (first
      | (go_at_call 39; refine Calls.mono (toInst _ _ x ?_ HS.out) ?_; exact HR.out.below (bel_call HB6.out (bel6 (by assumption))); rintro e w7 ⟨u7, rfl, ho, hb2⟩; replace ho := ho.read)
      | (go_at_call 41; refine (eqInst _ _ _ x (HX6.out.below (bel6 (by assumption))) ho HS.out).mono ?_; rintro e w8 ⟨rfl, hb3⟩))
  rename_i hH
  have HB7 := Aside0.mk (bel_call HB6.out hH.2.2.2.2.2.2); clear hH
  go_wp2
  go_ret
  exact ⟨rfl, HB7.out⟩
end
end Go.Proofs.Ytmjpajaeffhdeaa.L1
