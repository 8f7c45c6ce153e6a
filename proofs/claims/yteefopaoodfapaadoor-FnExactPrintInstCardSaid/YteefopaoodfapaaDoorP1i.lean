/- The law FnExactPrintInst's own walk. -/
import Derived.Test.YteefopaoodfapaaDoorP1h
namespace Go.Proofs.YteefopaoodfapaaDoor.L1
open Go.RowKit Go.Proofs.YteefopaoodfapaaDoorW.PrintWords Go.Proofs.YteefopaoodfapaaDoor.B
set_option linter.unusedVariables false
set_option linter.unusedSimpArgs false
attribute [local go_sem] mk_cell mk_frozen
theorem Inst.print_len (x : Inst) : x.print.length ≤ 1600000 := by
  unfold Inst.print
  cases hv : x.valid with
  | false => simp
  | true =>
    have hf := Inst.fit_of hv
    have h1 := lines_len Veh.flds x.vs fun a ha => Veh.line_len (hf.vs a ha)
    have h2 := lines_len Req.flds x.qs fun a ha => Req.line_len (hf.qs a ha)
    have h3 := lines_len Road.flds x.rs fun a ha => Road.line_len (hf.rs a ha)
    have := hf.nv; have := hf.nq; have := hf.nr
    rw [if_pos rfl]
    unfold Inst.text
    rw [List.length_append, List.length_append]
    omega
section
variable (w : World)
set_option maxRecDepth 100000 in
set_option maxHeartbeats 4000000 in
theorem law_printInst (v : Value) (x : Inst) (hr : ReadInst w v x) (ht : Tab w) : Calls Tryd.prog 3 #[v] w fun e w' => e = .returned (.bool true) ∧ Below w.heap.size w w' := by
  have hr' := hr
  obtain ⟨A0, c0, A1, c1, A2, c2, rfl, r0, r1, r2⟩ := hr'
  clear r0 r1 r2
  have HR := Aside0.mk hr; have HTB := Aside0.mk ht; clear hr ht
  have HA := Aside0.mk (al_new w (.cells #[.slice A0 x.vs.length c0, .slice A1 x.qs.length c1, .slice A2 x.rs.length c2] 26))
  have HB := Aside0.mk (below_alloc (Below.refl w.heap.size w) (.cells #[.slice A0 x.vs.length c0, .slice A1 x.qs.length c1, .slice A2 x.rs.length c2] 26))
  have HBL := Aside0.mk x.print_len
  go_enter Tryd.func3, Tryd.ntmps3
  go_wp2_with fail
  go_at_call 4
  refine (szInst _ _ x 1048576 (by omega) (by omega) (HR.out.below HB.out)).mono ?_
  rintro e w1 ⟨⟨r, rfl, hr⟩, hb⟩
  have HB1 := Aside0.mk (bel_call HB.out hb); have HA1 := Aside0.mk (blk_below HA.out hb); clear hb HA HB
  rcases hr with rfl | ⟨hr0, hr1, hs⟩
  · go_wp2
    go_ret
    exact ⟨rfl, HB1.out⟩
  have HS := Aside0.mk hs; clear hs
  have hd : decide (r < 0) = false := by simp; omega
  obtain ⟨b1, b2⟩ := lay (Below.refl _ _) HA1.out
  go_wp2_with fail
  clear b1 b2
  go_at_call 6
  refine (toInst _ _ x (HR.out.below HB1.out) HS.out).mono ?_
  rintro e w2 ⟨u, rfl, ho, hb⟩
  have HB2 := Aside0.mk (bel_call HB1.out hb); have HA2 := Aside0.mk (blk_below HA1.out hb); clear hb HA1 HB1
  have HX := Aside0.mk ho.read; clear ho
  go_wp2_with fail
  go_at_call 5
  refine (spec_PrintInst _ _ x HX.out).mono ?_
  rintro e w3 ⟨vW, rfl, hW, hb⟩
  have HB3 := Aside0.mk (bel_call HB2.out hb); have HA3 := Aside0.mk (blk_below HA2.out hb); have HW3 := Aside0.mk (Kd.fresh (base := w.heap.size) hW HB2.out.size); clear hb hW HA2 HX
  obtain ⟨W0, cW, rfl⟩ := Kd.R_slice HW3.out
  obtain ⟨b1, b2⟩ := lay (Below.refl _ _) HA3.out
  go_wp2_with fail
  clear b1 b2
  go_at_call 6
  refine (toInst _ _ x (HR.out.below HB3.out) HS.out).mono ?_
  rintro e w4 ⟨u4, rfl, ho, hb⟩
  have HB4 := Aside0.mk (bel_call HB3.out hb); have HA4 := Aside0.mk (blk_below HA3.out hb); have HW4 := Aside0.mk (Kd.R_below HW3.out hb); have HZ4 := Aside0.mk hb.size; have HPL := Aside0.mk (blk_lt HA3.out); clear hb HA3 HW3
  have HOW := Aside0.mk ho
  obtain ⟨B0, d0, B1, d1, B2, d2, rfl, t0, t1, t2⟩ := ho.read
  clear ho
  have HX := Aside0.mk (show ReadInst w4 (.agg #[.slice B0 x.vs.length d0, .slice B1 x.qs.length d1, .slice B2 x.rs.length d2]) x from ⟨_, _, _, _, _, _, rfl, t0, t1, t2⟩); clear t0 t1 t2
  go_wp2_with fail
  have HB5 := Aside0.mk (bel_box HB4.out (.cells #[.slice B0 x.vs.length d0, .slice B1 x.qs.length d1, .slice B2 x.rs.length d2] 34))
  have HA5 := Aside0.mk (blk_box HA4.out (.cells #[.slice B0 x.vs.length d0, .slice B1 x.qs.length d1, .slice B2 x.rs.length d2] 34))
  have HV5 := Aside0.mk (al_new w4 (.cells #[.slice B0 x.vs.length d0, .slice B1 x.qs.length d1, .slice B2 x.rs.length d2] 34))
  have HT5 := Aside0.mk (below_alloc (Below.refl w4.heap.size w4) (.cells #[.slice B0 x.vs.length d0, .slice B1 x.qs.length d1, .slice B2 x.rs.length d2] 34))
  have HX5 := Aside0.mk (HX.out.below HT5.out)
  have HW5 := Aside0.mk (Kd.R_alloc HW4.out (.cells #[.slice B0 x.vs.length d0, .slice B1 x.qs.length d1, .slice B2 x.rs.length d2] 34))
  clear HA4 HB4 HX HW4
  go_at_call 7
  refine (impl_PrintInst _ _ x HX5.out (HTB.out.on HB5.out)).mono ?_
  rintro e w6 ⟨vG, rfl, hG, hb⟩
  have HB6 := Aside0.mk (bel_call HB5.out hb); have HA6 := Aside0.mk (blk_below HA5.out hb); have HV6 := Aside0.mk (blk_below HV5.out hb); have HX6 := Aside0.mk (HX5.out.below hb); have HT6 := Aside0.mk (bel_call HT5.out hb); have HW6 := Aside0.mk (Kd.R_below HW5.out hb)
  have HG6 := Aside0.mk (Kd.fresh (base := w.heap.size) hG (by have := HB5.out.size; exact this))
  have HGZ := Aside0.mk (show w4.heap.size < (w4.alloc (.cells #[.slice B0 x.vs.length d0, .slice B1 x.qs.length d1, .slice B2 x.rs.length d2] 34)).heap.size by rw [al_size]; omega)
  clear hb hG HA5 HB5 HX5 HV5 HT5 HW5
  obtain ⟨G0, cG, rfl⟩ := Kd.R_slice HG6.out
  go_wp2_with fail
  go_at_call 8
  refine (eqByteS _ G0 W0 cG cW x.print (Kd.R_reads' HG6.out).2.2 (Kd.R_reads' HW6.out).2.2 (by have := HBL.out; omega)).mono ?_
  rintro e w7 ⟨rfl, hb⟩
  have HB7 := Aside0.mk (bel_call HB6.out hb); have HA7 := Aside0.mk (blk_below HA6.out hb); have HV7 := Aside0.mk (blk_below HV6.out hb); have HX7 := Aside0.mk (HX6.out.below hb); have HT7 := Aside0.mk (bel_call HT6.out hb); have HW7 := Aside0.mk (Kd.R_below HW6.out hb); have HG7 := Aside0.mk (Kd.R_below HG6.out hb); clear hb HA6 HB6 HX6 HV6 HT6 HW6 HG6
  go_wp2_with fail
  go_region_held3 (fun w' => w'.cell? ⟨w.heap.size, 0, none⟩ = some (.slice A0 x.vs.length c0) ∧ w'.cell? ⟨w.heap.size, 1, none⟩ = some (.slice A1 x.qs.length c1) ∧ w'.cell? ⟨w.heap.size, 2, none⟩ = some (.slice A2 x.rs.length c2) ∧ w'.cell? ⟨w4.heap.size, 0, none⟩ = some (.slice B0 x.vs.length d0) ∧ w'.cell? ⟨w4.heap.size, 1, none⟩ = some (.slice B1 x.qs.length d1) ∧ w'.cell? ⟨w4.heap.size, 2, none⟩ = some (.slice B2 x.rs.length d2) ∧ Below w7.heap.size w7 w')
    (first | exact ⟨blk_cell HA7.out 0, blk_cell HA7.out 1, blk_cell HA7.out 2, blk_cell HV7.out 0, blk_cell HV7.out 1, blk_cell HV7.out 2, below_drew (Below.refl _ _)⟩ | exact keepC6 (by assumption) hb2 | exact keepC6 (by assumption) hb3)
    (first
      | (go_at_call 6; refine Calls.mono (toInst _ _ x ?_ HS.out) ?_; exact HR.out.below (bel_call HB7.out (bel6 (by assumption))); rintro e y1 ⟨z1, rfl, ho, hb2⟩; replace ho := ho.read)
      | (go_at_call 9; refine (eqInst _ _ _ x (HX7.out.below (bel6 (by assumption))) ho HS.out).mono ?_; rintro e w8 ⟨rfl, hb3⟩))
  rename_i hH
  replace hH := bel6 hH
  have HB8 := Aside0.mk (bel_call HB7.out hH); have HA8 := Aside0.mk (blk_below HA7.out hH); have HV8 := Aside0.mk (blk_below HV7.out hH); have HT8 := Aside0.mk (bel_call HT7.out hH); have HW8 := Aside0.mk (Kd.R_below HW7.out hH); have HG8 := Aside0.mk (Kd.R_below HG7.out hH); clear hH HA7 HB7 HX7 HV7 HT7 HW7 HG7
  obtain ⟨b1, b2⟩ := lay (Below.refl _ _) HV8.out
  go_wp2_with fail
  clear b1 b2
  go_at_call 10
  refine (markInst _ w4 w3.heap.size _ x 1 HS.out (by omega) HOW.out HT8.out).mono ?_
  rintro e w9 ⟨⟨k9, rfl, hk9⟩, hO⟩
  have HB9 := Aside0.mk (hO.below HB8.out (fun i hi h => by have := HPL.out; omega))
  have HA9 := Aside0.mk ((hO.block _ (blk_lt HA8.out) (fun h => by have := HPL.out; omega)).trans HA8.out)
  have HW9 := Aside0.mk (Kd.R_step HW8.out (fun i hi hlt => hO.block i hlt (fun h => by have := hi.2; omega)))
  have HG9 := Aside0.mk (Kd.R_step HG8.out (fun i hi hlt => hO.block i hlt (fun h => by have := hi.1; have := HGZ.out; omega)))
  clear hO HB8 HA8 HW8 HG8 HV8 HT8
  have hd9 : decide (k9 < 0) = false := by simp; omega
  go_wp2_with fail
  go_at_call 8
  refine (eqByteS _ G0 W0 cG cW x.print (Kd.R_reads' HG9.out).2.2 (Kd.R_reads' HW9.out).2.2 (by have := HBL.out; omega)).mono ?_
  rintro e w10 ⟨rfl, hb⟩
  have HB10 := Aside0.mk (bel_call HB9.out hb); have HA10 := Aside0.mk (blk_below HA9.out hb); have HW10 := Aside0.mk (Kd.R_below HW9.out hb); have HG10 := Aside0.mk (Kd.R_below HG9.out hb); clear hb HA9 HB9 HW9 HG9
  go_wp2_with fail
  go_at_call 11
  refine (markByteS _ w G0 cG x.print 1 (by have := HBL.out; omega) (Kd.R_mono HG10.out fun _ _ => trivial) HB10.out).mono ?_
  rintro e w11 ⟨rfl, hM, hb, hg⟩
  have HB11 := Aside0.mk hb
  have HA11 := Aside0.mk (blk_grown HA10.out hg (fun h => by have h1 := HG10.out.1 _ h.symm; have := HGZ.out; have := HZ4.out; have := HPL.out; omega))
  have HW11 := Aside0.mk (Kd.R_grown HW10.out hg (fun i hi h => by have h1 := HG10.out.1 _ h.symm; have := HGZ.out; have := HZ4.out; have := hi.2; omega))
  have HM11 := Aside0.mk (show kByte.C w11 G0 x.print.length (marksB 1 x.print.length) by have h := (Kd.R_reads' hM).2.2; rw [marksB_len] at h; exact h)
  clear hb hg hM HB10 HA10 HW10 HG10
  go_wp2_with fail
  go_at_call 12
  refine (heldByteS _ G0 cG x.print.length 1 (by have := HBL.out; omega) HM11.out).mono ?_
  rintro e w12 ⟨rfl, hb⟩
  have HB12 := Aside0.mk (bel_call HB11.out hb); have HA12 := Aside0.mk (blk_below HA11.out hb); have HW12 := Aside0.mk (Kd.R_below HW11.out hb); clear hb HB11 HA11 HW11 HM11
  have hd12 : decide (((1 + x.print.length : Nat) : Int) < 0) = false := decide_eq_false (by omega)
  obtain ⟨b1, b2⟩ := lay (Below.refl _ _) HA12.out
  go_wp2_with fail
  clear b1 b2
  go_at_call 6
  refine (toInst _ _ x (HR.out.below HB12.out) HS.out).mono ?_
  rintro e w13 ⟨u13, rfl, ho, hb⟩
  have HB13 := Aside0.mk (bel_call HB12.out hb); have HW13 := Aside0.mk (Kd.R_below HW12.out hb); have HX13 := Aside0.mk ho.read; clear hb ho HB12 HW12 HA12
  go_wp2_with fail
  go_at_call 7
  refine (impl_PrintInst _ _ x HX13.out (HTB.out.on HB13.out)).mono ?_
  rintro e w14 ⟨vH, rfl, hG, hb⟩
  have HB14 := Aside0.mk (bel_call HB13.out hb); have HW14 := Aside0.mk (Kd.R_below HW13.out hb)
  obtain ⟨H0, cH, rfl⟩ := Kd.R_slice hG
  have HG14 := Aside0.mk hG; clear hb hG HB13 HW13 HX13
  go_wp2_with fail
  go_at_call 8
  refine (eqByteS _ H0 W0 cH cW x.print (Kd.R_reads' HG14.out).2.2 (Kd.R_reads' HW14.out).2.2 (by have := HBL.out; omega)).mono ?_
  rintro e w15 ⟨rfl, hb⟩
  have HB15 := Aside0.mk (bel_call HB14.out hb); clear hb
  go_wp2
  go_ret
  exact ⟨rfl, HB15.out⟩
end
end Go.Proofs.YteefopaoodfapaaDoor.L1
