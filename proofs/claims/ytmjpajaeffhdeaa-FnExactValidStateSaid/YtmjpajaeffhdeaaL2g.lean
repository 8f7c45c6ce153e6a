/- The law FnExactCost's own walk. -/
import Derived.Test.YtmjpajaeffhdeaaL2f
import Derived.Test.YtmjpajaeffhdeaaO0
namespace Go.Proofs.Ytmjpajaeffhdeaa.L1
open Go.RowKit Go.Proofs.YtmjpajaeffhdeaaW.PrintWords Go.Proofs.Ytmjpajaeffhdeaa.B
set_option linter.unusedVariables false
set_option linter.unusedSimpArgs false
attribute [local go_sem] mk_cell mk_frozen
section
variable {H : Type} {enc : TypeId × Value → H} {w : World} {base : Nat} {spare : Nat → Bool} {held : Bool}
theorem open_one (n : Nat) (cs : List Value) (x : DataW H × List MemPlace) (h : DataW.trod enc Try.prog w base spare held n 2 cs = some x) : ∃ y : Int, kInt.K w y cs := by
  obtain ⟨zs, hl, rfl⟩ := Open.flat_ints 1 _ 1 n cs x (by kernel_rfl) h
  match zs, hl with
  | [a0], _ => exact ⟨a0, rfl⟩
set_option maxRecDepth 100000 in
/-- A row of whole numbers that came in. -/
theorem open_ints {r : Reach} {b0 : Nat} {v : Value} {d : DataW H} {p : List MemPlace} (hv : Value.okWide Try.prog w r b0 61 v) (h : DataW.Trod enc Try.prog w base spare held 61 v d p) : ∃ xs, ReadInts w v xs := by
  obtain ⟨a0, len, cap, rfl⟩ := Go.WideShapes.okWide_slice Try.underlying61 hv
  obtain ⟨m, hm⟩ := h
  obtain ⟨A, c, xs, e, r⟩ := Open.open_C kInt (Try.underlying61) (by kernel_rfl) open_one hm
  have e1 : [Value.slice a0 len cap] = [Value.slice A xs.length c] := e
  simp only [List.cons.injEq, and_true] at e1
  exact ⟨xs, A, c, e1, r⟩
end
section
variable (w : World)
set_option maxRecDepth 100000 in
set_option maxHeartbeats 1000000 in
theorem law_cost (v r : Value) (x : Inst) (hr : ReadInst w v x) (a : Int) (xs : List Int) (hs : ReadInts w r xs) : Calls Try.prog 12 #[v, .int .i64 a, r] w fun e w' => e = .returned (.bool true) ∧ Below w.heap.size w w' := by
  have hr' := hr
  obtain ⟨A0, c0, A1, c1, A2, c2, rfl, r0, r1, r2⟩ := hr'
  clear r0 r1 r2
  obtain ⟨R, rc, rfl, hR⟩ := hs
  have hml := hR.2.1; have HQ := Aside0.mk hR; clear hR
  have HR := Aside0.mk hr; clear hr
  have HA := Aside0.mk (al_new w (.cells #[.slice A0 x.vs.length c0, .slice A1 x.qs.length c1, .slice A2 x.rs.length c2] 48))
  have HB := Aside0.mk (below_alloc (Below.refl w.heap.size w) (.cells #[.slice A0 x.vs.length c0, .slice A1 x.qs.length c1, .slice A2 x.rs.length c2] 48))
  by_cases hl : 1048576 < xs.length
  · have p0 : decide ((1048576 : Int) < (xs.length : Int)) = true := by simp; omega
    go_enter Try.func12, Try.ntmps12
    go_wp2
    go_ret
    exact ⟨rfl, HB.out⟩
  have hxl : xs.length ≤ 1048576 := by omega
  have p0 : decide ((1048576 : Int) < (xs.length : Int)) = false := by simp; omega
  go_enter Try.func12, Try.ntmps12
  go_wp2_with fail
  go_at_call 37
  refine (szInst _ _ x 1048576 (by omega) (by omega) (HR.out.below HB.out)).mono ?_
  rintro e w2 ⟨⟨r, rfl, hr⟩, hb⟩
  have HB1 := Aside0.mk (bel_call HB.out hb); have HA1 := Aside0.mk (blk_below HA.out hb); clear hb HA HB
  rcases hr with rfl | ⟨hr0, hr1, hs⟩
  · go_wp2
    go_ret
    exact ⟨rfl, HB1.out⟩
  have HS := Aside0.mk hs; clear hs
  have hd : decide (r < 0) = false := by simp; omega
  obtain ⟨b1, b2⟩ := lay (Below.refl _ _) HA1.out
  go_wp2_with fail
  clear b1 b2
  go_at_call 39
  refine (toInst _ _ x (HR.out.below HB1.out) HS.out).mono ?_
  rintro e w3 ⟨u, rfl, ho, hb⟩
  have HB2 := Aside0.mk (bel_call HB1.out hb); have HA2 := Aside0.mk (blk_below HA1.out hb); clear hb HA1 HB1
  have HX := Aside0.mk ho.read; clear ho
  go_wp2_with fail
  go_at_call 45
  refine (toInt64S _ R rc xs (Kd.C_below HQ.out HB2.out) hxl).mono ?_
  rintro e w3' ⟨u1, rfl, ho, hb⟩
  have HB2' := Aside0.mk (bel_call HB2.out hb); have HA2' := Aside0.mk (blk_below HA2.out hb)
  have HX' := Aside0.mk (HX.out.below hb); clear hb HA2 HB2 HX
  obtain ⟨R1, rc1, rfl, _, q1⟩ := Kd.R_reads ho
  clear ho
  have HQ1 := Aside0.mk (show ReadInts w3' (.slice R1 xs.length rc1) xs from ⟨_, _, rfl, q1⟩); clear q1
  go_wp2_with fail
  go_at_call 44
  refine (spec_Cost _ _ _ x HX'.out a xs HQ1.out).mono ?_
  rintro e w4 ⟨rfl, hb⟩
  have HB3 := Aside0.mk (bel_call HB2'.out hb); have HA3 := Aside0.mk (blk_below HA2'.out hb); clear hb HA2' HB2' HX' HQ1
  obtain ⟨b1, b2⟩ := lay (Below.refl _ _) HA3.out
  go_wp2_with fail
  clear b1 b2
  go_at_call 39
  refine (toInst _ _ x (HR.out.below HB3.out) HS.out).mono ?_
  rintro e w5 ⟨u5, rfl, ho, hb⟩
  have HB4 := Aside0.mk (bel_call HB3.out hb); have HA4 := Aside0.mk (blk_below HA3.out hb); clear hb HA3 HB3
  obtain ⟨B0, d0, B1, d1, B2, d2, rfl, t0, t1, t2⟩ := ho.read
  clear ho
  have HX := Aside0.mk (show ReadInst w5 (.agg #[.slice B0 x.vs.length d0, .slice B1 x.qs.length d1, .slice B2 x.rs.length d2]) x from ⟨_, _, _, _, _, _, rfl, t0, t1, t2⟩); clear t0 t1 t2
  go_wp2_with fail
  have HB5 := Aside0.mk (bel_box HB4.out (.cells #[.slice B0 x.vs.length d0, .slice B1 x.qs.length d1, .slice B2 x.rs.length d2] 55))
  have HA5 := Aside0.mk (blk_box HA4.out (.cells #[.slice B0 x.vs.length d0, .slice B1 x.qs.length d1, .slice B2 x.rs.length d2] 55))
  have HV5 := Aside0.mk (al_new w5 (.cells #[.slice B0 x.vs.length d0, .slice B1 x.qs.length d1, .slice B2 x.rs.length d2] 55))
  have HX5 := Aside0.mk (HX.out.below (below_alloc (Below.refl w5.heap.size w5) (.cells #[.slice B0 x.vs.length d0, .slice B1 x.qs.length d1, .slice B2 x.rs.length d2] 55)))
  clear HA4 HB4 HX
  go_at_call 45
  refine (toInt64S _ R rc xs (Kd.C_below HQ.out HB5.out) hxl).mono ?_
  rintro e w5' ⟨u6, rfl, ho, hb⟩
  have HB5' := Aside0.mk (bel_call HB5.out hb); have HA5' := Aside0.mk (blk_below HA5.out hb); have HV5' := Aside0.mk (blk_below HV5.out hb); have HX5' := Aside0.mk (HX5.out.below hb); clear hb HA5 HB5 HX5 HV5
  obtain ⟨R2, rc2, rfl, _, q2⟩ := Kd.R_reads ho
  clear ho
  have HQ2 := Aside0.mk (show ReadInts w5' (.slice R2 xs.length rc2) xs from ⟨_, _, rfl, q2⟩); have HQ3 := Aside0.mk q2; clear q2
  obtain ⟨b1, b2⟩ := lay (Below.refl _ _) HV5'.out
  go_wp2_with fail
  clear b1 b2
  go_at_call 46
  refine (impl_Cost _ _ _ x HX5'.out a xs HQ2.out).mono ?_
  rintro e w6 ⟨rfl, hb⟩
  have HB6 := Aside0.mk (bel_call HB5'.out hb); have HA6 := Aside0.mk (blk_below HA5'.out hb); have HV6 := Aside0.mk (blk_below HV5'.out hb); have HX6 := Aside0.mk (HX5'.out.below hb); have HQ6 := Aside0.mk (Kd.C_below HQ3.out hb); clear hb HA5' HB5' HX5' HV5' HQ2 HQ3
  go_wp2_with fail
  go_region_held3 (fun w' => w'.cell? ⟨w.heap.size, 0, none⟩ = some (.slice A0 x.vs.length c0) ∧ w'.cell? ⟨w.heap.size, 1, none⟩ = some (.slice A1 x.qs.length c1) ∧ w'.cell? ⟨w.heap.size, 2, none⟩ = some (.slice A2 x.rs.length c2) ∧ w'.cell? ⟨w5.heap.size, 0, none⟩ = some (.slice B0 x.vs.length d0) ∧ w'.cell? ⟨w5.heap.size, 1, none⟩ = some (.slice B1 x.qs.length d1) ∧ w'.cell? ⟨w5.heap.size, 2, none⟩ = some (.slice B2 x.rs.length d2) ∧ Below w6.heap.size w6 w')
    (first | exact ⟨blk_cell HA6.out 0, blk_cell HA6.out 1, blk_cell HA6.out 2, blk_cell HV6.out 0, blk_cell HV6.out 1, blk_cell HV6.out 2, below_drew (Below.refl _ _)⟩ | exact keepC6 (by assumption) hb2 | exact keepC6 (by assumption) hb3)
    (first
      | (go_at_call 39; refine Calls.mono (toInst _ _ x ?_ HS.out) ?_; exact HR.out.below (bel_call HB6.out (bel6 (by assumption))); rintro e w7 ⟨u7, rfl, ho, hb2⟩; replace ho := ho.read)
      | (go_at_call 41; refine (eqInst _ _ _ x (HX6.out.below (bel6 (by assumption))) ho HS.out).mono ?_; rintro e w8 ⟨rfl, hb3⟩))
  rename_i hH
  replace hH := hH.2.2.2.2.2.2
  have HB7 := Aside0.mk (bel_call HB6.out hH)
  go_wp2_with fail
  go_at_call 45
  refine (toInt64S _ R rc xs (Kd.C_below HQ.out HB7.out) hxl).mono ?_
  rintro e w8 ⟨u8, rfl, ho, hb⟩
  have HB8 := Aside0.mk (bel_call HB7.out hb)
  obtain ⟨R3, rc3, rfl, _, q3⟩ := Kd.R_reads ho
  have HQ8 := Aside0.mk q3; have HQ9 := Aside0.mk (Kd.C_below (Kd.C_below HQ6.out hH) hb); clear hb ho q3
  go_wp2_with fail
  go_at_call 47
  refine (eqInt64S _ R2 R3 rc2 rc3 xs HQ9.out HQ8.out hxl).mono ?_
  rintro e w9 ⟨rfl, hb⟩
  have HB9 := Aside0.mk (bel_call HB8.out hb); clear hb
  go_wp2
  go_ret
  exact ⟨rfl, HB9.out⟩
end
end Go.Proofs.Ytmjpajaeffhdeaa.L1
