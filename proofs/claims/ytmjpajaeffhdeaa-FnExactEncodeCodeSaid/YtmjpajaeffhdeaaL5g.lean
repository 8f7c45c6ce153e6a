/- The law FnExactEncodeCode's own walk. -/
import Derived.Test.YtmjpajaeffhdeaaL5f
import Derived.Test.YtmjpajaeffhdeaaL3g
namespace Go.Proofs.Ytmjpajaeffhdeaa.L1
open Go.RowKit Go.Proofs.YtmjpajaeffhdeaaW.PrintWords Go.Proofs.Ytmjpajaeffhdeaa.B
set_option linter.unusedVariables false
set_option linter.unusedSimpArgs false
attribute [local go_sem] mk_cell mk_frozen
theorem Code.bytes_len (x : Code) : x.bytes.length ≤ 983065 := by
  unfold Code.bytes
  cases hv : x.valid with
  | false => simp
  | true =>
    have := vars_len (Code.numbers_bd hv)
    have := Code.all_len hv
    have h2 : x.numbers.length = 5 + 4 * x.all.length := by unfold Code.numbers; rw [List.length_append, four_len]; rfl
    rw [if_pos rfl]
    omega
section
variable (w : World)
set_option maxRecDepth 100000 in
set_option maxHeartbeats 4000000 in
theorem law_encodeCode (v : Value) (x : Code) (hr : ReadCode w v x) : Calls Try.prog 7 #[v] w fun e w' => e = .returned (.bool true) ∧ Below w.heap.size w w' := by
  have hr' := hr
  obtain ⟨A0, c0, A1, c1, A2, c2, rfl, r0, r1, r2⟩ := hr'
  clear r0 r1 r2
  have HR := Aside0.mk hr; clear hr
  have HA := Aside0.mk (al_new w (.cells #[.int .i64 x.regs, .int .i64 x.slots, .slice A0 x.b0.length c0, .slice A1 x.b1.length c1, .slice A2 x.b2.length c2] 27))
  have HB := Aside0.mk (below_alloc (Below.refl w.heap.size w) (.cells #[.int .i64 x.regs, .int .i64 x.slots, .slice A0 x.b0.length c0, .slice A1 x.b1.length c1, .slice A2 x.b2.length c2] 27))
  have HBL := Aside0.mk x.bytes_len
  go_enter Try.func7, Try.ntmps7
  go_wp2_with fail
  go_at_call 18
  refine (szCode _ _ x 1048576 (by omega) (by omega) (HR.out.below HB.out)).mono ?_
  rintro e w1 ⟨⟨r, rfl, hr⟩, hb⟩
  have HB1 := Aside0.mk (bel_call HB.out hb); have HA1 := Aside0.mk (blk_below HA.out hb); clear hb HA HB
  rcases hr with rfl | ⟨hr0, hr1, hs⟩
  · go_wp2
    go_ret
    exact ⟨rfl, HB1.out⟩
  have HS := Aside0.mk hs; clear hs
  have hd : decide (r < 0) = false := by simp; omega
  obtain ⟨b1, b2⟩ := lay (Below.refl _ _) HA1.out
  go_wp2_with fail
  clear b1 b2
  go_at_call 20
  refine (toCode _ _ x (HR.out.below HB1.out) HS.out).mono ?_
  rintro e w2 ⟨u, rfl, ho, hb⟩
  have HB2 := Aside0.mk (bel_call HB1.out hb); have HA2 := Aside0.mk (blk_below HA1.out hb); clear hb HA1 HB1
  have HX := Aside0.mk ho.read; clear ho
  go_wp2_with fail
  go_at_call 23
  refine (spec_EncodeCode _ _ x HX.out).mono ?_
  rintro e w3 ⟨vW, rfl, hW, hb⟩
  have HB3 := Aside0.mk (bel_call HB2.out hb); have HA3 := Aside0.mk (blk_below HA2.out hb); have HW3 := Aside0.mk (Kd.fresh (base := w.heap.size) hW HB2.out.size); clear hb hW HA2 HX
  obtain ⟨W0, cW, rfl⟩ := Kd.R_slice HW3.out
  obtain ⟨b1, b2⟩ := lay (Below.refl _ _) HA3.out
  go_wp2_with fail
  clear b1 b2
  go_at_call 20
  refine (toCode _ _ x (HR.out.below HB3.out) HS.out).mono ?_
  rintro e w4 ⟨u4, rfl, ho, hb⟩
  have HB4 := Aside0.mk (bel_call HB3.out hb); have HA4 := Aside0.mk (blk_below HA3.out hb); have HW4 := Aside0.mk (Kd.R_below HW3.out hb); have HZ4 := Aside0.mk hb.size; have HPL := Aside0.mk (blk_lt HA3.out); clear hb HA3 HW3
  have HOW := Aside0.mk ho
  obtain ⟨B0, d0, B1, d1, B2, d2, rfl, t0, t1, t2⟩ := ho.read
  clear ho
  have HX := Aside0.mk (show ReadCode w4 (.agg #[.int .i64 x.regs, .int .i64 x.slots, .slice B0 x.b0.length d0, .slice B1 x.b1.length d1, .slice B2 x.b2.length d2]) x from ⟨_, _, _, _, _, _, rfl, t0, t1, t2⟩); clear t0 t1 t2
  go_wp2_with fail
  have HB5 := Aside0.mk (bel_box HB4.out (.cells #[.int .i64 x.regs, .int .i64 x.slots, .slice B0 x.b0.length d0, .slice B1 x.b1.length d1, .slice B2 x.b2.length d2] 32))
  have HA5 := Aside0.mk (blk_box HA4.out (.cells #[.int .i64 x.regs, .int .i64 x.slots, .slice B0 x.b0.length d0, .slice B1 x.b1.length d1, .slice B2 x.b2.length d2] 32))
  have HV5 := Aside0.mk (al_new w4 (.cells #[.int .i64 x.regs, .int .i64 x.slots, .slice B0 x.b0.length d0, .slice B1 x.b1.length d1, .slice B2 x.b2.length d2] 32))
  have HT5 := Aside0.mk (below_alloc (Below.refl w4.heap.size w4) (.cells #[.int .i64 x.regs, .int .i64 x.slots, .slice B0 x.b0.length d0, .slice B1 x.b1.length d1, .slice B2 x.b2.length d2] 32))
  have HX5 := Aside0.mk (HX.out.below HT5.out)
  have HW5 := Aside0.mk (Kd.R_alloc HW4.out (.cells #[.int .i64 x.regs, .int .i64 x.slots, .slice B0 x.b0.length d0, .slice B1 x.b1.length d1, .slice B2 x.b2.length d2] 32))
  clear HA4 HB4 HX HW4
  go_at_call 24
  refine (impl_EncodeCode _ _ x HX5.out).mono ?_
  rintro e w6 ⟨vG, rfl, hG, hb⟩
  have HB6 := Aside0.mk (bel_call HB5.out hb); have HA6 := Aside0.mk (blk_below HA5.out hb); have HV6 := Aside0.mk (blk_below HV5.out hb); have HX6 := Aside0.mk (HX5.out.below hb); have HT6 := Aside0.mk (bel_call HT5.out hb); have HW6 := Aside0.mk (Kd.R_below HW5.out hb)
  have HG6 := Aside0.mk (Kd.fresh (base := w.heap.size) hG (by have := HB5.out.size; exact this))
  have HGZ := Aside0.mk (show w4.heap.size < (w4.alloc (.cells #[.int .i64 x.regs, .int .i64 x.slots, .slice B0 x.b0.length d0, .slice B1 x.b1.length d1, .slice B2 x.b2.length d2] 32)).heap.size by rw [al_size]; omega)
  clear hb hG HA5 HB5 HX5 HV5 HT5 HW5
  obtain ⟨G0, cG, rfl⟩ := Kd.R_slice HG6.out
  go_wp2_with fail
  go_at_call 25
  refine (eqByteS _ G0 W0 cG cW x.bytes (Kd.R_reads' HG6.out).2.2 (Kd.R_reads' HW6.out).2.2 (by have := HBL.out; omega)).mono ?_
  rintro e w7 ⟨rfl, hb⟩
  have HB7 := Aside0.mk (bel_call HB6.out hb); have HA7 := Aside0.mk (blk_below HA6.out hb); have HV7 := Aside0.mk (blk_below HV6.out hb); have HX7 := Aside0.mk (HX6.out.below hb); have HT7 := Aside0.mk (bel_call HT6.out hb); have HW7 := Aside0.mk (Kd.R_below HW6.out hb); have HG7 := Aside0.mk (Kd.R_below HG6.out hb); clear hb HA6 HB6 HX6 HV6 HT6 HW6 HG6
  go_wp2_with fail
  go_region_held3 (fun w' => w'.cell? ⟨w.heap.size, 0, none⟩ = some (.int .i64 x.regs) ∧ w'.cell? ⟨w.heap.size, 1, none⟩ = some (.int .i64 x.slots) ∧ w'.cell? ⟨w.heap.size, 2, none⟩ = some (.slice A0 x.b0.length c0) ∧ w'.cell? ⟨w.heap.size, 3, none⟩ = some (.slice A1 x.b1.length c1) ∧ w'.cell? ⟨w.heap.size, 4, none⟩ = some (.slice A2 x.b2.length c2) ∧ w'.cell? ⟨w4.heap.size, 0, none⟩ = some (.int .i64 x.regs) ∧ w'.cell? ⟨w4.heap.size, 1, none⟩ = some (.int .i64 x.slots) ∧ w'.cell? ⟨w4.heap.size, 2, none⟩ = some (.slice B0 x.b0.length d0) ∧ w'.cell? ⟨w4.heap.size, 3, none⟩ = some (.slice B1 x.b1.length d1) ∧ w'.cell? ⟨w4.heap.size, 4, none⟩ = some (.slice B2 x.b2.length d2) ∧ Below w7.heap.size w7 w')
    (first | exact ⟨blk_cell HA7.out 0, blk_cell HA7.out 1, blk_cell HA7.out 2, blk_cell HA7.out 3, blk_cell HA7.out 4, blk_cell HV7.out 0, blk_cell HV7.out 1, blk_cell HV7.out 2, blk_cell HV7.out 3, blk_cell HV7.out 4, below_drew (Below.refl _ _)⟩ | exact keepC10 (by assumption) hb2 | exact keepC10 (by assumption) hb3)
    (first
      | (go_at_call 20; refine Calls.mono (toCode _ _ x ?_ HS.out) ?_; exact HR.out.below (bel_call HB7.out (bel10 (by assumption))); rintro e y1 ⟨z1, rfl, ho, hb2⟩; replace ho := ho.read)
      | (go_at_call 22; refine (eqCode _ _ _ x (HX7.out.below (bel10 (by assumption))) ho HS.out).mono ?_; rintro e w8 ⟨rfl, hb3⟩))
  rename_i hH
  replace hH := bel10 hH
  have HB8 := Aside0.mk (bel_call HB7.out hH); have HA8 := Aside0.mk (blk_below HA7.out hH); have HV8 := Aside0.mk (blk_below HV7.out hH); have HT8 := Aside0.mk (bel_call HT7.out hH); have HW8 := Aside0.mk (Kd.R_below HW7.out hH); have HG8 := Aside0.mk (Kd.R_below HG7.out hH); clear hH HA7 HB7 HX7 HV7 HT7 HW7 HG7
  obtain ⟨b1, b2⟩ := lay (Below.refl _ _) HV8.out
  go_wp2_with fail
  clear b1 b2
  go_at_call 26
  refine (markCode _ w4 w3.heap.size _ x 1 HS.out (by omega) HOW.out HT8.out).mono ?_
  rintro e w9 ⟨⟨k9, rfl, hk9⟩, hO⟩
  have HB9 := Aside0.mk (hO.below HB8.out (fun i hi h => by have := HPL.out; omega))
  have HA9 := Aside0.mk ((hO.block _ (blk_lt HA8.out) (fun h => by have := HPL.out; omega)).trans HA8.out)
  have HW9 := Aside0.mk (Kd.R_step HW8.out (fun i hi hlt => hO.block i hlt (fun h => by have := hi.2; omega)))
  have HG9 := Aside0.mk (Kd.R_step HG8.out (fun i hi hlt => hO.block i hlt (fun h => by have := hi.1; have := HGZ.out; omega)))
  clear hO HB8 HA8 HW8 HG8 HV8 HT8
  have hd9 : decide (k9 < 0) = false := by simp; omega
  go_wp2_with fail
  go_at_call 25
  refine (eqByteS _ G0 W0 cG cW x.bytes (Kd.R_reads' HG9.out).2.2 (Kd.R_reads' HW9.out).2.2 (by have := HBL.out; omega)).mono ?_
  rintro e w10 ⟨rfl, hb⟩
  have HB10 := Aside0.mk (bel_call HB9.out hb); have HA10 := Aside0.mk (blk_below HA9.out hb); have HW10 := Aside0.mk (Kd.R_below HW9.out hb); have HG10 := Aside0.mk (Kd.R_below HG9.out hb); clear hb HA9 HB9 HW9 HG9
  go_wp2_with fail
  go_at_call 27
  refine (markByteS _ w G0 cG x.bytes 1 (by have := HBL.out; omega) (Kd.R_mono HG10.out fun _ _ => trivial) HB10.out).mono ?_
  rintro e w11 ⟨rfl, hM, hb, hg⟩
  have HB11 := Aside0.mk hb
  have HA11 := Aside0.mk (blk_grown HA10.out hg (fun h => by have h1 := HG10.out.1 _ h.symm; have := HGZ.out; have := HZ4.out; have := HPL.out; omega))
  have HW11 := Aside0.mk (Kd.R_grown HW10.out hg (fun i hi h => by have h1 := HG10.out.1 _ h.symm; have := HGZ.out; have := HZ4.out; have := hi.2; omega))
  have HM11 := Aside0.mk (show kByte.C w11 G0 x.bytes.length (marksB 1 x.bytes.length) by have h := (Kd.R_reads' hM).2.2; rw [marksB_len] at h; exact h)
  clear hb hg hM HB10 HA10 HW10 HG10
  go_wp2_with fail
  go_at_call 28
  refine (heldByteS _ G0 cG x.bytes.length 1 (by have := HBL.out; omega) HM11.out).mono ?_
  rintro e w12 ⟨rfl, hb⟩
  have HB12 := Aside0.mk (bel_call HB11.out hb); have HA12 := Aside0.mk (blk_below HA11.out hb); have HW12 := Aside0.mk (Kd.R_below HW11.out hb); clear hb HB11 HA11 HW11 HM11
  have hd12 : decide (((1 + x.bytes.length : Nat) : Int) < 0) = false := decide_eq_false (by omega)
  obtain ⟨b1, b2⟩ := lay (Below.refl _ _) HA12.out
  go_wp2_with fail
  clear b1 b2
  go_at_call 20
  refine (toCode _ _ x (HR.out.below HB12.out) HS.out).mono ?_
  rintro e w13 ⟨u13, rfl, ho, hb⟩
  have HB13 := Aside0.mk (bel_call HB12.out hb); have HW13 := Aside0.mk (Kd.R_below HW12.out hb); have HX13 := Aside0.mk ho.read; clear hb ho HB12 HW12 HA12
  go_wp2_with fail
  go_at_call 24
  refine (impl_EncodeCode _ _ x HX13.out).mono ?_
  rintro e w14 ⟨vH, rfl, hG, hb⟩
  have HB14 := Aside0.mk (bel_call HB13.out hb); have HW14 := Aside0.mk (Kd.R_below HW13.out hb)
  obtain ⟨H0, cH, rfl⟩ := Kd.R_slice hG
  have HG14 := Aside0.mk hG; clear hb hG HB13 HW13 HX13
  go_wp2_with fail
  go_at_call 25
  refine (eqByteS _ H0 W0 cH cW x.bytes (Kd.R_reads' HG14.out).2.2 (Kd.R_reads' HW14.out).2.2 (by have := HBL.out; omega)).mono ?_
  rintro e w15 ⟨rfl, hb⟩
  have HB15 := Aside0.mk (bel_call HB14.out hb); clear hb
  go_wp2
  go_ret
  exact ⟨rfl, HB15.out⟩
end
end Go.Proofs.Ytmjpajaeffhdeaa.L1
