/- A line, as the reference reads it, by its kind. -/
import Derived.Test.YtogjkkbhmanbmaaGreatDoorQP8
import Derived.Deep.Cut
import Derived.Deep.CutRange
namespace Go.Proofs.YtogjkkbhmanbmaaGreatDoor.L1
open Go.RowKit Go.Proofs.YtogjkkbhmanbmaaGreatDoorW.PrintWords Go.Proofs.YtogjkkbhmanbmaaGreatDoor.B
set_option linter.unusedVariables false
set_option linter.unusedSimpArgs false
attribute [local go_sem] mk_cell mk_frozen
section
variable (w : World)
set_option maxRecDepth 100000 in
set_option maxHeartbeats 8000000 in
theorem spec_line3 (w0 : World) (A0 A1 A2 : Option Addr) (c0 c1 c2 : Nat) (x : Inst) (h0 : kVeh.R 60 w w0.heap.size (fun _ => True) (.slice A0 x.vs.length c0) x.vs) (h1 : kReq.R 63 w w0.heap.size (fun _ => True) (.slice A1 x.qs.length c1) x.qs) (h2 : kRoad.R 66 w w0.heap.size (fun _ => True) (.slice A2 x.rs.length c2) x.rs) (hB : Below w0.heap.size w0 w) (f0 : x.vs.length ≤ 64) (f1 : x.qs.length ≤ 1000) (f2 : x.rs.length ≤ 4000)
    (Al : Option Addr) (cl : Nat) (line : List Int) (hl : kByte.C w Al line.length line) (ht : Tame line) (hk : kindOf ((pieces 32 line).getD 0 []) = 3) (z : Nat) (zc : Array Value) (hz : w.heap[z]? = some (.cells zc 27 (0, 0))) : Calls Tryz.prog 13 #[.agg #[.slice A0 x.vs.length c0, .slice A1 x.qs.length c1, .slice A2 x.rs.length c2], .slice Al line.length cl] w fun e w' => ∃ u, e = .returned (.tuple #[.int .i64 (lineP x line).1, u]) ∧ OwnI w' w0.heap.size u (lineP x line).2 ∧ Below w0.heap.size w0 w' ∧ w'.heap[z]? = some (.cells zc 27 (0, 0)) := by
  have HZZ0 := Aside0.mk (blk_box (blk_box hz (.cells #[.slice A0 x.vs.length c0, .slice A1 x.qs.length c1, .slice A2 x.rs.length c2] 27)) (.cells #[.slice none 0 0, .slice none 0 0, .slice none 0 0] 27)); have HZL := Aside0.mk (blk_lt' hz); clear hz
  have HLN := Aside0.mk hl; have HTM := Aside0.mk ht; have HK := Aside0.mk hk; have HB := Aside0.mk hB; have HF := Aside0.mk (And.intro f0 (And.intro f1 f2))
  have HB0 := Aside0.mk (bel_box (bel_box hB (.cells #[.slice A0 x.vs.length c0, .slice A1 x.qs.length c1, .slice A2 x.rs.length c2] 27)) (.cells #[.slice none 0 0, .slice none 0 0, .slice none 0 0] 27))
  have HC0 := Aside0.mk (below_alloc (below_alloc (Below.refl w.heap.size w) (.cells #[.slice A0 x.vs.length c0, .slice A1 x.qs.length c1, .slice A2 x.rs.length c2] 27)) (.cells #[.slice none 0 0, .slice none 0 0, .slice none 0 0] 27))
  have h := blk_box (al_new w (.cells #[.slice A0 x.vs.length c0, .slice A1 x.qs.length c1, .slice A2 x.rs.length c2] 27)) (.cells #[.slice none 0 0, .slice none 0 0, .slice none 0 0] 27)
  have HIn0 := Aside0.mk h; clear h
  have h := al_new (w.alloc (.cells #[.slice A0 x.vs.length c0, .slice A1 x.qs.length c1, .slice A2 x.rs.length c2] 27)) (.cells #[.slice none 0 0, .slice none 0 0, .slice none 0 0] 27)
  simp only [al_size] at h
  have HOut0 := Aside0.mk h; clear h
  have HR00 := Aside0.mk (Kd.R_below h0 HC0.out); have HR10 := Aside0.mk (Kd.R_below h1 HC0.out); have HR20 := Aside0.mk (Kd.R_below h2 HC0.out)
  have HGI := Aside0.mk (show w0.heap.size ≤ w.heap.size from hB.size)
  have HGO := Aside0.mk (show w0.heap.size ≤ w.heap.size + 1 from Nat.le_trans hB.size (Nat.le_add_right _ 1))
  have HSZ0 := Aside0.mk (Nat.le_refl ((w.alloc (.cells #[.slice A0 x.vs.length c0, .slice A1 x.qs.length c1, .slice A2 x.rs.length c2] 27)).alloc (.cells #[.slice none 0 0, .slice none 0 0, .slice none 0 0] 27)).heap.size)
  have HZ0 := Aside0.mk (show ((w.alloc (.cells #[.slice A0 x.vs.length c0, .slice A1 x.qs.length c1, .slice A2 x.rs.length c2] 27)).alloc (.cells #[.slice none 0 0, .slice none 0 0, .slice none 0 0] 27)).heap.size = w.heap.size + 2 by simp only [al_size])
  have HLR := Aside0.mk (Kd.C_below hl HC0.out)
  obtain ⟨fs, hfs⟩ : ∃ fs, pieces 32 line = fs := ⟨_, rfl⟩
  rw [show lineP x line = lineW x (pieces 32 line) (kindOf ((pieces 32 line).getD 0 [])) from rfl, hk, hfs]
  have HFS := Aside0.mk hfs
  have HPT := Aside0.mk (fun j => (hfs ▸ ht.piece (sep := 32) j : Tame (fs.getD j []))); have HPL := Aside0.mk (show 0 < fs.length from hfs ▸ pieces_pos 32 line)
  rw [hfs] at HK
  clear hfs
  clear hl ht hk hB f0 f1 f2 h0 h1 h2
  go_enter Tryz.func13, Tryz.ntmps13
  obtain ⟨in1, in2⟩ := lay (Below.refl _ _) HIn0.out
  obtain ⟨out1, out2⟩ := lay (Below.refl _ _) HOut0.out
  go_wp2_with fail
  clear in1 in2 out1 out2
  go_at_call 12
  refine (spec_split _ Al cl line 32 HLR.out HTM.out.1).mono ?_
  rintro e w1 ⟨v, ps, rfl, hr, hf, hfit, hb⟩
  have HB1 := Aside0.mk (bel_call HB0.out hb); have HIn1 := Aside0.mk (blk_below HIn0.out hb); have HOut1 := Aside0.mk (blk_below HOut0.out hb); have HR01 := Aside0.mk (Kd.R_below HR00.out hb); have HR11 := Aside0.mk (Kd.R_below HR10.out hb); have HR21 := Aside0.mk (Kd.R_below HR20.out hb); have HSZ1 := Aside0.mk (Nat.le_trans HSZ0.out hb.size); rw [HFS.out] at hf hfit; obtain ⟨B, cB, rfl, hcB, hwd⟩ := Flds.words hr hf hfit HPL.out; have HWD := Aside0.mk hwd; clear hr hf hfit hwd; have HZZ1 := Aside0.mk (blk_below HZZ0.out hb); clear hb
  obtain ⟨A, c, y0, hkd⟩ := (HWD.out 0 HPL.out).kind (HPT.out 0)
  rw [HK.out] at hkd
  have HKD := Aside0.mk hkd; clear hkd
  generalize hN : fs.length = N at hcB
  have HN := Aside0.mk hN; clear hN
  have hpos : 0 < N := by have h1 := HN.out; have h2 := HPL.out; omega
  have hposI : (0 : Int) < (N : Int) := by omega
  obtain ⟨in1, in2⟩ := lay (Below.refl _ _) HIn1.out
  obtain ⟨out1, out2⟩ := lay (Below.refl _ _) HOut1.out
  go_wp2_with fail
  go_at_call 21
  refine Calls.mono HKD.out ?_
  rintro e w' ⟨rfl, rfl⟩
  go_upto_region 5 with fail
  clear in1 in2 out1 out2
  clear y0
  go_cut [39] from 23 to 39 (fun s39 wx => s39 = .bool false ∧ w1 = wx)
  case first =>
    have HNN := HN
    rcases Nat.eq_zero_or_pos x.rs.length with hr | hr
    · rcases Nat.eq_zero_or_pos x.qs.length with hq | hq
      · skip
        have prs : decide ((0 : Int) < (x.rs.length : Int)) = false := decide_eq_false (by omega)
        have qrs : decide (0 < x.rs.length) = false := decide_eq_false (by omega)
        have pqs : decide ((0 : Int) < (x.qs.length : Int)) = false := decide_eq_false (by omega)
        have qqs : decide (0 < x.qs.length) = false := decide_eq_false (by omega)
        obtain ⟨in1, in2⟩ := lay (Below.refl _ _) HIn1.out
        obtain ⟨out1, out2⟩ := lay (Below.refl _ _) HOut1.out
        go_wp2_with fail
        go_meet
        exact ⟨rfl, rfl⟩
      · skip
        have prs : decide ((0 : Int) < (x.rs.length : Int)) = false := decide_eq_false (by omega)
        have qrs : decide (0 < x.rs.length) = false := decide_eq_false (by omega)
        have pqs : decide ((0 : Int) < (x.qs.length : Int)) = true := decide_eq_true (by omega)
        have qqs : decide (0 < x.qs.length) = true := decide_eq_true (by omega)
        obtain ⟨in1, in2⟩ := lay (Below.refl _ _) HIn1.out
        obtain ⟨out1, out2⟩ := lay (Below.refl _ _) HOut1.out
        go_wp2_with fail
        go_meet
        exact ⟨rfl, rfl⟩
    · rcases Nat.eq_zero_or_pos x.qs.length with hq | hq
      · skip
        have prs : decide ((0 : Int) < (x.rs.length : Int)) = true := decide_eq_true (by omega)
        have qrs : decide (0 < x.rs.length) = true := decide_eq_true (by omega)
        have pqs : decide ((0 : Int) < (x.qs.length : Int)) = false := decide_eq_false (by omega)
        have qqs : decide (0 < x.qs.length) = false := decide_eq_false (by omega)
        obtain ⟨in1, in2⟩ := lay (Below.refl _ _) HIn1.out
        obtain ⟨out1, out2⟩ := lay (Below.refl _ _) HOut1.out
        go_wp2_with fail
        go_meet
        exact ⟨rfl, rfl⟩
      · skip
        have prs : decide ((0 : Int) < (x.rs.length : Int)) = true := decide_eq_true (by omega)
        have qrs : decide (0 < x.rs.length) = true := decide_eq_true (by omega)
        have pqs : decide ((0 : Int) < (x.qs.length : Int)) = true := decide_eq_true (by omega)
        have qqs : decide (0 < x.qs.length) = true := decide_eq_true (by omega)
        obtain ⟨in1, in2⟩ := lay (Below.refl _ _) HIn1.out
        obtain ⟨out1, out2⟩ := lay (Below.refl _ _) HOut1.out
        go_wp2_with fail
        go_meet
        exact ⟨rfl, rfl⟩
  case rest =>
  obtain ⟨rfl, rfl⟩ := hcut
  have HO := Aside0.mk (show ¬((0 < x.rs.length ∧ (3 : Int) < 3) ∨ (0 < x.qs.length ∧ (3 : Int) < 2)) by omega)
  by_cases hn : N = 4
  rotate_left
  · skip
    have HV := Aside0.mk (show lineW x fs 3 = (5, x) by unfold lineW; rw [if_neg (by decide), if_neg HO.out, if_pos (by rw [HN.out]; exact hn)])
    have n0 : ((N : Int) == 4) = false := beq_false_of_ne (by omega)
    have n1 : decide ((N : Int) = 4) = false := decide_eq_false (by omega)
    have n2 : ((N : Int) != 4) = true := by rw [bne, n0]; rfl
    clear hn
    obtain ⟨in1, in2⟩ := lay (Below.refl _ _) HIn1.out
    obtain ⟨out1, out2⟩ := lay (Below.refl _ _) HOut1.out
    go_wp2_with fail
    clear in1 in2 out1 out2
    refine wp_region_ret (by kernel_rfl) 49 4 2 5 27 27 (.int .i64 5) ⟨rfl, rfl⟩ ⟨rfl, rfl⟩ ⟨rfl, rfl⟩ (by kernel_rfl) (by kernel_rfl) (by kernel_rfl) (by decide) (show 49 < 185 by decide) rfl rfl Tryz.underlying27 rfl (by kernel_rfl) (by rfl) HIn1.out HOut1.out (Nat.ne_of_lt (Nat.lt_succ_self _)) (List.all_eq_true.1 (show List.all [.slice A0 x.vs.length c0, .slice A1 x.qs.length c1, .slice A2 x.rs.length c2] Value.oneCell' = true from rfl)) ?_
    intro w2 hX hT
    have HZZ2 := Aside0.mk (tch_ne hT HZZ1.out (Nat.ne_of_lt (Nat.lt_succ_of_lt HZL.out)))
    (try simp only [List.setIfInBounds_toArray, List.set_cons_zero, List.set_cons_succ] at hX)
    have HB2 := Aside0.mk (hT.below w0 (fun k hk => by rw [hk]; exact HGO.out) HB1.out); have HIn2 := Aside0.mk (tch_ne hT HIn1.out (Nat.ne_of_lt (Nat.lt_succ_self _))); have HR02 := Aside0.mk (R_tch HR01.out hT HOut1.out (by decide)); have HR12 := Aside0.mk (R_tch HR11.out hT HOut1.out (by decide)); have HR22 := Aside0.mk (R_tch HR21.out hT HOut1.out (by decide)); have HSZ2 := Aside0.mk (Nat.le_trans HSZ1.out hT.size); have HOut2 := Aside0.mk hX; clear hX hT
    go_wp2_with fail
    refine bodyPost_ret (results_two Tryz.results13 rfl HOut2.out Tryz.underlying27 rfl (by kernel_rfl)) rfl ?_
    exact ⟨_, by rw [HV.out]; rfl, by rw [HV.out]; exact ⟨_, _, _, rfl, HR02.out, HR12.out, HR22.out⟩, HB2.out, HZZ2.out⟩
  subst hn
  have HLV := Aside0.mk (show ∀ b, allI fs.length (formAt 3 fs) = b → lineW x fs 3 = if b = false then (6, x) else addRoad x (roadOf fs) by intro b hb; unfold lineW; rw [if_neg (by decide), if_neg HO.out, if_neg (by rw [HN.out]; decide), hb]; rfl)
  clear HO hposI hpos
  obtain ⟨in1, in2⟩ := lay (Below.refl _ _) HIn1.out
  obtain ⟨out1, out2⟩ := lay (Below.refl _ _) HOut1.out
  go_wp2_with fail
  clear in1 in2 out1 out2
  go_loopg [9] 4 (fun q v wr => ∃ k : Nat, q = 4 + 1 - k ∧ 1 ≤ k ∧ k ≤ 4 ∧ v = .int .i64 k ∧ Aside0 (allI k (formAt 3 fs) = true) ∧ Aside0 (Below w1.heap.size w1 wr))
  case atStart => exact ⟨1, by omega, by omega, by omega, rfl, ⟨rfl⟩, ⟨Below.refl _ _⟩⟩
  case round =>
    obtain ⟨k, rfl, hk1, hk, rfl, HG, HL⟩ := hrel
    by_cases hlt : k < 4
    · have hlu : (k : Int) < 4 := by omega
      have HS := Aside0.mk (allI_succ k (formAt 3 fs))
      have HKL := Aside0.mk (show k < fs.length by rw [HN.out]; exact hlt)
      obtain ⟨A, c, y, hc⟩ := (HWD.out k HKL.out).isNum (HPT.out k)
      cases hv : L1.isNum (fs.getD k []) with
      | true =>
        have HA := Aside0.mk (show formAt 3 fs k = true by unfold formAt; rw [if_neg (by omega), if_neg (by omega)]; exact hv)
        rw [hv] at hc; have HCC := Aside0.mk hc; clear hc hv
        have hb := HL.out
        rename World => w2
        have HB2 := Aside0.mk (bel_call HB1.out hb); have HIn2 := Aside0.mk (blk_below HIn1.out hb); have HOut2 := Aside0.mk (blk_below HOut1.out hb); have HR02 := Aside0.mk (Kd.R_below HR01.out hb); have HR12 := Aside0.mk (Kd.R_below HR11.out hb); have HR22 := Aside0.mk (Kd.R_below HR21.out hb); have HSZ2 := Aside0.mk (Nat.le_trans HSZ1.out hb.size); have y1 := pw_cell_below HL.out y; have HZZ2 := Aside0.mk (blk_below HZZ1.out hb); clear hb
        obtain ⟨in1, in2⟩ := lay (Below.refl _ _) HIn2.out
        obtain ⟨out1, out2⟩ := lay (Below.refl _ _) HOut2.out
        go_wp2_with fail
        clear in1 in2 out1 out2
        go_at_call 23
        refine (HCC.out _ HL.out).mono ?_
        rintro e w' ⟨rfl, rfl⟩
        go_wp2_with fail
        go_roundg (4 + 1 - (k + 1))
        case measure => omega
        case rel => exact ⟨k + 1, rfl, by omega, hlt, by go_num, ⟨by rw [HS.out, HG.out, HA.out]; rfl⟩, HL⟩
      | false =>
        have HA := Aside0.mk (show formAt 3 fs k = false by unfold formAt; rw [if_neg (by omega), if_neg (by omega)]; exact hv)
        rw [hv] at hc; have HCC := Aside0.mk hc; clear hc hv
        have hb := HL.out
        rename World => w2
        have HB2 := Aside0.mk (bel_call HB1.out hb); have HIn2 := Aside0.mk (blk_below HIn1.out hb); have HOut2 := Aside0.mk (blk_below HOut1.out hb); have HR02 := Aside0.mk (Kd.R_below HR01.out hb); have HR12 := Aside0.mk (Kd.R_below HR11.out hb); have HR22 := Aside0.mk (Kd.R_below HR21.out hb); have HSZ2 := Aside0.mk (Nat.le_trans HSZ1.out hb.size); have y1 := pw_cell_below HL.out y; have HZZ2 := Aside0.mk (blk_below HZZ1.out hb); clear hb
        have HV := Aside0.mk (show lineW x fs 3 = (6, x) from HLV.out false (allI_false HKL.out HA.out))
        obtain ⟨in1, in2⟩ := lay (Below.refl _ _) HIn2.out
        obtain ⟨out1, out2⟩ := lay (Below.refl _ _) HOut2.out
        go_wp2_with fail
        clear in1 in2 out1 out2
        go_at_call 23
        refine (HCC.out _ HL.out).mono ?_
        rintro e w' ⟨rfl, rfl⟩
        obtain ⟨in1, in2⟩ := lay (Below.refl _ _) HIn2.out
        obtain ⟨out1, out2⟩ := lay (Below.refl _ _) HOut2.out
        go_wp2_with fail
        clear in1 in2 out1 out2
        refine wp_region_ret (by kernel_rfl) 75 4 2 5 27 27 (.int .i64 6) ⟨rfl, rfl⟩ ⟨rfl, rfl⟩ ⟨rfl, rfl⟩ (by kernel_rfl) (by kernel_rfl) (by kernel_rfl) (by decide) (show 75 < 185 by decide) rfl rfl Tryz.underlying27 rfl (by kernel_rfl) (by rfl) HIn2.out HOut2.out (Nat.ne_of_lt (Nat.lt_succ_self _)) (List.all_eq_true.1 (show List.all [.slice A0 x.vs.length c0, .slice A1 x.qs.length c1, .slice A2 x.rs.length c2] Value.oneCell' = true from rfl)) ?_
        intro w3 hX hT
        have HZZ3 := Aside0.mk (tch_ne hT HZZ2.out (Nat.ne_of_lt (Nat.lt_succ_of_lt HZL.out)))
        (try simp only [List.setIfInBounds_toArray, List.set_cons_zero, List.set_cons_succ] at hX)
        have HB3 := Aside0.mk (hT.below w0 (fun k hk => by rw [hk]; exact HGO.out) HB2.out); have HIn3 := Aside0.mk (tch_ne hT HIn2.out (Nat.ne_of_lt (Nat.lt_succ_self _))); have HR03 := Aside0.mk (R_tch HR02.out hT HOut2.out (by decide)); have HR13 := Aside0.mk (R_tch HR12.out hT HOut2.out (by decide)); have HR23 := Aside0.mk (R_tch HR22.out hT HOut2.out (by decide)); have HSZ3 := Aside0.mk (Nat.le_trans HSZ2.out hT.size); have HOut3 := Aside0.mk hX; clear hX hT
        go_wp2_with fail
        refine bodyPost_ret (results_two Tryz.results13 rfl HOut3.out Tryz.underlying27 rfl (by kernel_rfl)) rfl ?_
        exact ⟨_, by rw [HV.out]; rfl, by rw [HV.out]; exact ⟨_, _, _, rfl, HR03.out, HR13.out, HR23.out⟩, HB3.out, HZZ3.out⟩
    · have hke : k = 4 := by omega
      subst hke
      have HVA := Aside0.mk (HLV.out true (by rw [HN.out]; exact HG.out))
      clear HLV
      have hb := HL.out; rename World => w2
      have HB2 := Aside0.mk (bel_call HB1.out hb); have HIn2 := Aside0.mk (blk_below HIn1.out hb); have HOut2 := Aside0.mk (blk_below HOut1.out hb); have HR02 := Aside0.mk (Kd.R_below HR01.out hb); have HR12 := Aside0.mk (Kd.R_below HR11.out hb); have HR22 := Aside0.mk (Kd.R_below HR21.out hb); have HSZ2 := Aside0.mk (Nat.le_trans HSZ1.out hb.size); have HWD2 := Aside0.mk (HWD.out.below HL.out); have HZZ2 := Aside0.mk (blk_below HZZ1.out hb); clear hb
      have HFM := Aside0.mk (allI_iff.1 HG.out)
      obtain ⟨AN1, cN1, yN1, hnN1⟩ := (HWD2.out 1 (by rw [HN.out]; decide)).num (show L1.isNum (fs.getD 1 []) = true by have h := HFM.out 1 (by decide); unfold formAt at h; rw [if_neg (by decide), if_neg (by decide)] at h; exact h)
      generalize (fs.getD 1 []).length = lN1 at yN1 hnN1
      have HNN1 := Aside0.mk hnN1; clear hnN1
      obtain ⟨AN2, cN2, yN2, hnN2⟩ := (HWD2.out 2 (by rw [HN.out]; decide)).num (show L1.isNum (fs.getD 2 []) = true by have h := HFM.out 2 (by decide); unfold formAt at h; rw [if_neg (by decide), if_neg (by decide)] at h; exact h)
      generalize (fs.getD 2 []).length = lN2 at yN2 hnN2
      have HNN2 := Aside0.mk hnN2; clear hnN2
      obtain ⟨AN3, cN3, yN3, hnN3⟩ := (HWD2.out 3 (by rw [HN.out]; decide)).num (show L1.isNum (fs.getD 3 []) = true by have h := HFM.out 3 (by decide); unfold formAt at h; rw [if_neg (by decide), if_neg (by decide)] at h; exact h)
      generalize (fs.getD 3 []).length = lN3 at yN3 hnN3
      have HNN3 := Aside0.mk hnN3; clear hnN3
      obtain ⟨y, hy⟩ : ∃ y, y = roadOf fs := ⟨_, rfl⟩
      rw [← hy] at HVA
      rw [show numVal (fs.getD 1 []) = y.a by rw [hy]; rfl] at HNN1
      rw [show numVal (fs.getD 2 []) = y.b by rw [hy]; rfl] at HNN2
      rw [show numVal (fs.getD 3 []) = y.t by rw [hy]; rfl] at HNN3
      clear hy
      have HyN1 := Aside0.mk yN1; clear yN1
      have HyN2 := Aside0.mk yN2; clear yN2
      have HyN3 := Aside0.mk yN3; clear yN3
      obtain ⟨in1, in2⟩ := lay (Below.refl _ _) HIn2.out
      obtain ⟨out1, out2⟩ := lay (Below.refl _ _) HOut2.out
      go_wp2_with fail
      clear in1 in2 out1 out2
      skip
      refine Grow.wp_region_deps 14 ⟨[(13, 12)], fun i zv lo hi W => GAt [(13, BoxG #[.int .i64 0, .int .i64 0, .int .i64 0] 66)] i zv lo W, fun i zv lo hi W W' hb h => GAt.stays (l := [(13, BoxG #[.int .i64 0, .int .i64 0, .int .i64 0] 66)]) ⟨BoxG.stays _ _, trivial⟩ i zv lo hi W W' hb h⟩ (by kernel_rfl) (show List.Pairwise (fun p q : Nat × Tmp => p.1 ≠ q.1 ∧ p.2 ≠ q.2) [(13, 12)] from by decide) (by kernel_rfl) (by rfl) ?_
      dsimp only [List.take, List.drop]
      refine Grow.lexD_do _ (by rfl) (by rfl) (by intro W hj; obtain ⟨in1, in2⟩ := lay (Below.refl _ _) (blk_below HIn2.out hj.out); obtain ⟨out1, out2⟩ := lay (Below.refl _ _) (blk_below HOut2.out hj.out); have cHyN1 := pw_cell_below hj.out HyN1.out; have cHyN2 := pw_cell_below hj.out HyN2.out; have cHyN3 := pw_cell_below hj.out HyN3.out; go_simp; first | exact Grow.UponB.val | (have cc := HNN1.out W hj.out; with_reducible exact Grow.UponB.call cc) | (have cc := HNN2.out W hj.out; with_reducible exact Grow.UponB.call cc) | (have cc := HNN3.out W hj.out; with_reducible exact Grow.UponB.call cc)) ?_
      refine Grow.lexD_norm (fun K hK => ?_); go_simp; refine hK _ ?_; clear hK K
      refine Grow.lexD_do _ (by rfl) (by rfl) (by intro W hj; obtain ⟨in1, in2⟩ := lay (Below.refl _ _) (blk_below HIn2.out hj.out); obtain ⟨out1, out2⟩ := lay (Below.refl _ _) (blk_below HOut2.out hj.out); have cHyN1 := pw_cell_below hj.out HyN1.out; have cHyN2 := pw_cell_below hj.out HyN2.out; have cHyN3 := pw_cell_below hj.out HyN3.out; go_simp; first | exact Grow.UponB.val | (have cc := HNN1.out W hj.out; with_reducible exact Grow.UponB.call cc) | (have cc := HNN2.out W hj.out; with_reducible exact Grow.UponB.call cc) | (have cc := HNN3.out W hj.out; with_reducible exact Grow.UponB.call cc)) ?_
      refine Grow.lexD_norm (fun K hK => ?_); go_simp; refine hK _ ?_; clear hK K
      refine Grow.lexD_do _ (by rfl) (by rfl) (by intro W hj; obtain ⟨in1, in2⟩ := lay (Below.refl _ _) (blk_below HIn2.out hj.out); obtain ⟨out1, out2⟩ := lay (Below.refl _ _) (blk_below HOut2.out hj.out); have cHyN1 := pw_cell_below hj.out HyN1.out; have cHyN2 := pw_cell_below hj.out HyN2.out; have cHyN3 := pw_cell_below hj.out HyN3.out; go_simp; first | exact Grow.UponB.val | (have cc := HNN1.out W hj.out; with_reducible exact Grow.UponB.call cc) | (have cc := HNN2.out W hj.out; with_reducible exact Grow.UponB.call cc) | (have cc := HNN3.out W hj.out; with_reducible exact Grow.UponB.call cc)) ?_
      refine Grow.lexD_norm (fun K hK => ?_); go_simp; refine hK _ ?_; clear hK K
      refine Grow.lexD_do _ (by rfl) (by rfl) (by intro W hj; obtain ⟨in1, in2⟩ := lay (Below.refl _ _) (blk_below HIn2.out hj.out); obtain ⟨out1, out2⟩ := lay (Below.refl _ _) (blk_below HOut2.out hj.out); have cHyN1 := pw_cell_below hj.out HyN1.out; have cHyN2 := pw_cell_below hj.out HyN2.out; have cHyN3 := pw_cell_below hj.out HyN3.out; go_simp; first | exact Grow.UponB.val | (have cc := HNN1.out W hj.out; with_reducible exact Grow.UponB.call cc) | (have cc := HNN2.out W hj.out; with_reducible exact Grow.UponB.call cc) | (have cc := HNN3.out W hj.out; with_reducible exact Grow.UponB.call cc)) ?_
      refine Grow.lexD_norm (fun K hK => ?_); go_simp; refine hK _ ?_; clear hK K
      refine Grow.lexD_do _ (by rfl) (by rfl) (by intro W hj; obtain ⟨in1, in2⟩ := lay (Below.refl _ _) (blk_below HIn2.out hj.out); obtain ⟨out1, out2⟩ := lay (Below.refl _ _) (blk_below HOut2.out hj.out); have cHyN1 := pw_cell_below hj.out HyN1.out; have cHyN2 := pw_cell_below hj.out HyN2.out; have cHyN3 := pw_cell_below hj.out HyN3.out; go_simp; first | exact Grow.UponB.val | (have cc := HNN1.out W hj.out; with_reducible exact Grow.UponB.call cc) | (have cc := HNN2.out W hj.out; with_reducible exact Grow.UponB.call cc) | (have cc := HNN3.out W hj.out; with_reducible exact Grow.UponB.call cc)) ?_
      refine Grow.lexD_norm (fun K hK => ?_); go_simp; refine hK _ ?_; clear hK K
      refine Grow.lexD_do _ (by rfl) (by rfl) (by intro W hj; obtain ⟨in1, in2⟩ := lay (Below.refl _ _) (blk_below HIn2.out hj.out); obtain ⟨out1, out2⟩ := lay (Below.refl _ _) (blk_below HOut2.out hj.out); have cHyN1 := pw_cell_below hj.out HyN1.out; have cHyN2 := pw_cell_below hj.out HyN2.out; have cHyN3 := pw_cell_below hj.out HyN3.out; go_simp; first | exact Grow.UponB.val | (have cc := HNN1.out W hj.out; with_reducible exact Grow.UponB.call cc) | (have cc := HNN2.out W hj.out; with_reducible exact Grow.UponB.call cc) | (have cc := HNN3.out W hj.out; with_reducible exact Grow.UponB.call cc)) ?_
      refine Grow.lexD_norm (fun K hK => ?_); go_simp; refine hK _ ?_; clear hK K
      refine Grow.lexD_do _ (by rfl) (by rfl) (by intro W hj; obtain ⟨in1, in2⟩ := lay (Below.refl _ _) (blk_below HIn2.out hj.out); obtain ⟨out1, out2⟩ := lay (Below.refl _ _) (blk_below HOut2.out hj.out); have cHyN1 := pw_cell_below hj.out HyN1.out; have cHyN2 := pw_cell_below hj.out HyN2.out; have cHyN3 := pw_cell_below hj.out HyN3.out; go_simp; first | exact Grow.UponB.val | (have cc := HNN1.out W hj.out; with_reducible exact Grow.UponB.call cc) | (have cc := HNN2.out W hj.out; with_reducible exact Grow.UponB.call cc) | (have cc := HNN3.out W hj.out; with_reducible exact Grow.UponB.call cc)) ?_
      refine Grow.lexD_norm (fun K hK => ?_); go_simp; refine hK _ ?_; clear hK K
      refine Grow.lexD_do _ (by rfl) (by rfl) (by intro W hj; obtain ⟨in1, in2⟩ := lay (Below.refl _ _) (blk_below HIn2.out hj.out); obtain ⟨out1, out2⟩ := lay (Below.refl _ _) (blk_below HOut2.out hj.out); have cHyN1 := pw_cell_below hj.out HyN1.out; have cHyN2 := pw_cell_below hj.out HyN2.out; have cHyN3 := pw_cell_below hj.out HyN3.out; go_simp; first | exact Grow.UponB.val | (have cc := HNN1.out W hj.out; with_reducible exact Grow.UponB.call cc) | (have cc := HNN2.out W hj.out; with_reducible exact Grow.UponB.call cc) | (have cc := HNN3.out W hj.out; with_reducible exact Grow.UponB.call cc)) ?_
      refine Grow.lexD_norm (fun K hK => ?_); go_simp; refine hK _ ?_; clear hK K
      refine Grow.lexD_do _ (by rfl) (by rfl) (by intro W hj; obtain ⟨in1, in2⟩ := lay (Below.refl _ _) (blk_below HIn2.out hj.out); obtain ⟨out1, out2⟩ := lay (Below.refl _ _) (blk_below HOut2.out hj.out); have cHyN1 := pw_cell_below hj.out HyN1.out; have cHyN2 := pw_cell_below hj.out HyN2.out; have cHyN3 := pw_cell_below hj.out HyN3.out; go_simp; first | exact Grow.UponB.val | (have cc := HNN1.out W hj.out; with_reducible exact Grow.UponB.call cc) | (have cc := HNN2.out W hj.out; with_reducible exact Grow.UponB.call cc) | (have cc := HNN3.out W hj.out; with_reducible exact Grow.UponB.call cc)) ?_
      refine Grow.lexD_norm (fun K hK => ?_); go_simp; refine hK _ ?_; clear hK K
      refine Grow.lexD_do _ (by rfl) (by rfl) (by intro W hj; obtain ⟨in1, in2⟩ := lay (Below.refl _ _) (blk_below HIn2.out hj.out); obtain ⟨out1, out2⟩ := lay (Below.refl _ _) (blk_below HOut2.out hj.out); have cHyN1 := pw_cell_below hj.out HyN1.out; have cHyN2 := pw_cell_below hj.out HyN2.out; have cHyN3 := pw_cell_below hj.out HyN3.out; go_simp; first | exact Grow.UponB.val | (have cc := HNN1.out W hj.out; with_reducible exact Grow.UponB.call cc) | (have cc := HNN2.out W hj.out; with_reducible exact Grow.UponB.call cc) | (have cc := HNN3.out W hj.out; with_reducible exact Grow.UponB.call cc)) ?_
      refine Grow.lexD_norm (fun K hK => ?_); go_simp; refine hK _ ?_; clear hK K
      refine Grow.lexD_do _ (by rfl) (by rfl) (by intro W hj; obtain ⟨in1, in2⟩ := lay (Below.refl _ _) (blk_below HIn2.out hj.out); obtain ⟨out1, out2⟩ := lay (Below.refl _ _) (blk_below HOut2.out hj.out); have cHyN1 := pw_cell_below hj.out HyN1.out; have cHyN2 := pw_cell_below hj.out HyN2.out; have cHyN3 := pw_cell_below hj.out HyN3.out; go_simp; first | exact Grow.UponB.val | (have cc := HNN1.out W hj.out; with_reducible exact Grow.UponB.call cc) | (have cc := HNN2.out W hj.out; with_reducible exact Grow.UponB.call cc) | (have cc := HNN3.out W hj.out; with_reducible exact Grow.UponB.call cc)) ?_
      refine Grow.lexD_norm (fun K hK => ?_); go_simp; refine hK _ ?_; clear hK K
      refine Grow.lexD_do _ (by rfl) (by rfl) (by intro W hj; obtain ⟨in1, in2⟩ := lay (Below.refl _ _) (blk_below HIn2.out hj.out); obtain ⟨out1, out2⟩ := lay (Below.refl _ _) (blk_below HOut2.out hj.out); have cHyN1 := pw_cell_below hj.out HyN1.out; have cHyN2 := pw_cell_below hj.out HyN2.out; have cHyN3 := pw_cell_below hj.out HyN3.out; go_simp; first | exact Grow.UponB.val | (have cc := HNN1.out W hj.out; with_reducible exact Grow.UponB.call cc) | (have cc := HNN2.out W hj.out; with_reducible exact Grow.UponB.call cc) | (have cc := HNN3.out W hj.out; with_reducible exact Grow.UponB.call cc)) ?_
      refine Grow.lexD_norm (fun K hK => ?_); go_simp; refine hK _ ?_; clear hK K
      refine Grow.lexD_do _ (by rfl) (by rfl) (by intro W hj; obtain ⟨in1, in2⟩ := lay (Below.refl _ _) (blk_below HIn2.out hj.out); obtain ⟨out1, out2⟩ := lay (Below.refl _ _) (blk_below HOut2.out hj.out); have cHyN1 := pw_cell_below hj.out HyN1.out; have cHyN2 := pw_cell_below hj.out HyN2.out; have cHyN3 := pw_cell_below hj.out HyN3.out; go_simp; first | exact Grow.UponB.val | (have cc := HNN1.out W hj.out; with_reducible exact Grow.UponB.call cc) | (have cc := HNN2.out W hj.out; with_reducible exact Grow.UponB.call cc) | (have cc := HNN3.out W hj.out; with_reducible exact Grow.UponB.call cc)) ?_
      refine Grow.lexD_norm (fun K hK => ?_); go_simp; refine hK _ ?_; clear hK K
      refine Grow.lexD_make (by rfl) (by rfl) (by intro u lo hi W hj hd; have hlow : w2.heap.size ≤ W.heap.size := hj.out.size; obtain ⟨in1, in2⟩ := lay (Below.refl _ _) (blk_below HIn2.out hj.out); obtain ⟨out1, out2⟩ := lay (Below.refl _ _) (blk_below HOut2.out hj.out); have cHyN1 := pw_cell_below hj.out HyN1.out; have cHyN2 := pw_cell_below hj.out HyN2.out; have cHyN3 := pw_cell_below hj.out HyN3.out; dsimp only [Grow.fillM, List.foldl]; go_simp; refine Grow.UponB.boxR ?_; exact GAt.mk (P := BoxG #[.int .i64 0, .int .i64 0, .int .i64 0] 66) (⟨rfl, al_new W _⟩) (by intro p hp he; simp only [List.mem_cons, List.not_mem_nil, or_false] at hp; rcases hp with rfl <;> first | rfl | exact absurd he (by simp))) ?_
      refine Grow.lexD_norm (fun K hK => ?_); go_simp; refine hK _ ?_; clear hK K
      refine Grow.lexD_nil (fun u lo hi w3 hj hG hord => ?_)
      obtain ⟨hu, hbx⟩ := (show BoxG #[.int .i64 0, .int .i64 0, .int .i64 0] 66 (u 13) (lo 13) w3 from ((hG 13 rfl).1).at (by simp))
      have hlo := (hG 13 rfl).2.1
      clear hG hord
      dsimp only [List.foldl]
      rw [hu]
      generalize lo 13 = vb at *
      clear hu lo hi u
      have HGV := Aside0.mk (show w0.heap.size ≤ vb from Nat.le_trans HB2.out.size hlo)
      have HZV := Aside0.mk (show z < vb by have h1 := HSZ2.out; have h2 := HZ0.out; have h3 := HZL.out; omega)
      have HV3 := Aside0.mk hbx
      have HRN3 := Aside0.mk (R_fresh HR22.out hj.out hlo)
      clear hbx hlo
      refine wpl_norm (fun K hK => ?_); go_simp; refine hK _ ?_; clear hK K
      have hb := hj.out; clear hj
      have HB3 := Aside0.mk (bel_call HB2.out hb); have HIn3 := Aside0.mk (blk_below HIn2.out hb); have HOut3 := Aside0.mk (blk_below HOut2.out hb); have HR03 := Aside0.mk (Kd.R_below HR02.out hb); have HR13 := Aside0.mk (Kd.R_below HR12.out hb); have HR23 := Aside0.mk (Kd.R_below HR22.out hb); have HSZ3 := Aside0.mk (Nat.le_trans HSZ2.out hb.size); have HZZ3 := Aside0.mk (blk_below HZZ2.out hb); clear hb
      obtain ⟨in1, in2⟩ := lay (Below.refl _ _) HIn3.out
      obtain ⟨out1, out2⟩ := lay (Below.refl _ _) HOut3.out
      obtain ⟨v1, v2⟩ := lay (Below.refl _ _) HV3.out
      go_wp2_with ((with_reducible refine gate_store (t := 66) (p := 12) rfl ?_); refine wpList_putAll rfl rfl _ _ _ rfl (g := vb) [.int .i64 y.a, .int .i64 y.b, .int .i64 y.t] rfl rfl (by kernel_rfl) (List.all_eq_true.1 (show List.all [.int .i64 y.a, .int .i64 y.b, .int .i64 y.t] Value.oneCell' = true from rfl)) HV3.out rfl ?_; intro w4 hX hT hz; clear hz; clear in1 in2 out1 out2 v1 v2; have HZZ4 := Aside0.mk (tch_ne hT HZZ3.out (Nat.ne_of_lt HZV.out)); (try simp only [List.setIfInBounds_toArray, List.set_cons_zero, List.set_cons_succ] at hX); have HB4 := Aside0.mk (hT.below w0 (fun k hk => by rw [hk]; exact HGV.out) HB3.out); have HIn4 := Aside0.mk (tch_keep hT HV3.out HIn3.out (by decide)); have HOut4 := Aside0.mk (tch_keep hT HV3.out HOut3.out (by decide)); have HR04 := Aside0.mk (R_tch HR03.out hT HV3.out (by decide)); have HR14 := Aside0.mk (R_tch HR13.out hT HV3.out (by decide)); have HR24 := Aside0.mk (R_miss HRN3.out hT); have HSZ4 := Aside0.mk (Nat.le_trans HSZ3.out hT.size); have HV4 := Aside0.mk hX; clear hX hT; obtain ⟨in1, in2⟩ := lay (Below.refl _ _) HIn4.out; obtain ⟨out1, out2⟩ := lay (Below.refl _ _) HOut4.out; obtain ⟨v1, v2⟩ := lay (Below.refl _ _) HV4.out)
      clear in1 in2 out1 out2 v1 v2
      have HND := Aside0.mk (show 0 ≤ ((x.vs.length : Int) + 2 * (x.qs.length : Int)) ∧ ((x.vs.length : Int) + 2 * (x.qs.length : Int)) ≤ 100000000 by have h := HF.out; omega)
      cases hgd : y.good ((x.vs.length : Int) + 2 * (x.qs.length : Int)) with
      | false =>
        have HY := Aside0.mk hgd; clear hgd
        have HGD := Aside0.mk (show ∀ W : World, Calls Tryz.prog 29 #[.agg #[.int .i64 y.a, .int .i64 y.b, .int .i64 y.t], .int .i64 ((x.vs.length : Int) + 2 * (x.qs.length : Int))] W fun e w' => e = .returned (.bool false) ∧ Below W.heap.size W w' from fun W => by have h := spec_goodRoad W y ((x.vs.length : Int) + 2 * (x.qs.length : Int)) HND.out.1 HND.out.2; rw [HY.out] at h; exact h)
        have HV := Aside0.mk (show lineW x fs 3 = (7, x) by rw [HVA.out]; show addRoad x y = _; unfold addRoad Inst.nodes; rw [if_pos HY.out])
        obtain ⟨in1, in2⟩ := lay (Below.refl _ _) HIn4.out
        obtain ⟨out1, out2⟩ := lay (Below.refl _ _) HOut4.out
        obtain ⟨v1, v2⟩ := lay (Below.refl _ _) HV4.out
        go_wp2_with fail
        clear in1 in2 out1 out2 v1 v2
        refine Grow.wp_region_growB (by kernel_rfl) (by kernel_rfl) ?_
        repeat ((first | (refine Grow.lex_do _ (by rfl) (by intro W hj; obtain ⟨in1, in2⟩ := lay (Below.refl _ _) (blk_below HIn4.out hj.out); obtain ⟨out1, out2⟩ := lay (Below.refl _ _) (blk_below HOut4.out hj.out); obtain ⟨v1, v2⟩ := lay (Below.refl _ _) (blk_below HV4.out hj.out); go_simp; first | exact Grow.Upon.val hj | (have cc := spec_nodes W A0 A1 A2 x.vs.length x.qs.length x.rs.length c0 c1 c2 (by have h := HF.out; omega) (by have h := HF.out; omega); with_reducible exact Grow.Upon.callB hj cc) | (have cc := HGD.out W; with_reducible exact Grow.Upon.callB hj cc)) ?_)); refine Grow.lex_norm (fun K hK => ?_); go_simp; refine hK _ ?_; clear hK K)
        refine Grow.lex_nil (fun w5 hj => ?_)
        have hb := hj.out; clear hj
        have HB5 := Aside0.mk (bel_call HB4.out hb); have HIn5 := Aside0.mk (blk_below HIn4.out hb); have HOut5 := Aside0.mk (blk_below HOut4.out hb); have HV5 := Aside0.mk (blk_below HV4.out hb); have HR05 := Aside0.mk (Kd.R_below HR04.out hb); have HR15 := Aside0.mk (Kd.R_below HR14.out hb); have HR25 := Aside0.mk (Kd.R_below HR24.out hb); have HSZ5 := Aside0.mk (Nat.le_trans HSZ4.out hb.size); have HZZ5 := Aside0.mk (blk_below HZZ4.out hb); clear hb
        obtain ⟨in1, in2⟩ := lay (Below.refl _ _) HIn5.out
        obtain ⟨out1, out2⟩ := lay (Below.refl _ _) HOut5.out
        obtain ⟨v1, v2⟩ := lay (Below.refl _ _) HV5.out
        go_wp2_with fail
        clear in1 in2 out1 out2 v1 v2
        refine wp_region_ret (by kernel_rfl) 154 4 2 5 27 27 (.int .i64 7) ⟨rfl, rfl⟩ ⟨rfl, rfl⟩ ⟨rfl, rfl⟩ (by kernel_rfl) (by kernel_rfl) (by kernel_rfl) (by decide) (show 154 < 185 by decide) rfl rfl Tryz.underlying27 rfl (by kernel_rfl) (by rfl) HIn5.out HOut5.out (Nat.ne_of_lt (Nat.lt_succ_self _)) (List.all_eq_true.1 (show List.all [.slice A0 x.vs.length c0, .slice A1 x.qs.length c1, .slice A2 x.rs.length c2] Value.oneCell' = true from rfl)) ?_
        intro w6 hX hT
        have HZZ6 := Aside0.mk (tch_ne hT HZZ5.out (Nat.ne_of_lt (Nat.lt_succ_of_lt HZL.out)))
        (try simp only [List.setIfInBounds_toArray, List.set_cons_zero, List.set_cons_succ] at hX)
        have HB6 := Aside0.mk (hT.below w0 (fun k hk => by rw [hk]; exact HGO.out) HB5.out); have HIn6 := Aside0.mk (tch_ne hT HIn5.out (Nat.ne_of_lt (Nat.lt_succ_self _))); have HV6 := Aside0.mk (tch_keep hT HOut5.out HV5.out (by decide)); have HR06 := Aside0.mk (R_tch HR05.out hT HOut5.out (by decide)); have HR16 := Aside0.mk (R_tch HR15.out hT HOut5.out (by decide)); have HR26 := Aside0.mk (R_tch HR25.out hT HOut5.out (by decide)); have HSZ6 := Aside0.mk (Nat.le_trans HSZ5.out hT.size); have HOut6 := Aside0.mk hX; clear hX hT
        go_wp2_with fail
        refine bodyPost_ret (results_two Tryz.results13 rfl HOut6.out Tryz.underlying27 rfl (by kernel_rfl)) rfl ?_
        exact ⟨_, by rw [HV.out]; rfl, by rw [HV.out]; exact ⟨_, _, _, rfl, HR06.out, HR16.out, HR26.out⟩, HB6.out, HZZ6.out⟩
      | true =>
        have HY := Aside0.mk hgd; clear hgd
        have HGD := Aside0.mk (show ∀ W : World, Calls Tryz.prog 29 #[.agg #[.int .i64 y.a, .int .i64 y.b, .int .i64 y.t], .int .i64 ((x.vs.length : Int) + 2 * (x.qs.length : Int))] W fun e w' => e = .returned (.bool true) ∧ Below W.heap.size W w' from fun W => by have h := spec_goodRoad W y ((x.vs.length : Int) + 2 * (x.qs.length : Int)) HND.out.1 HND.out.2; rw [HY.out] at h; exact h)
        obtain ⟨in1, in2⟩ := lay (Below.refl _ _) HIn4.out
        obtain ⟨out1, out2⟩ := lay (Below.refl _ _) HOut4.out
        obtain ⟨v1, v2⟩ := lay (Below.refl _ _) HV4.out
        go_wp2_with fail
        clear in1 in2 out1 out2 v1 v2
        refine Grow.wp_region_growB (by kernel_rfl) (by kernel_rfl) ?_
        repeat ((first | (refine Grow.lex_do _ (by rfl) (by intro W hj; obtain ⟨in1, in2⟩ := lay (Below.refl _ _) (blk_below HIn4.out hj.out); obtain ⟨out1, out2⟩ := lay (Below.refl _ _) (blk_below HOut4.out hj.out); obtain ⟨v1, v2⟩ := lay (Below.refl _ _) (blk_below HV4.out hj.out); go_simp; first | exact Grow.Upon.val hj | (have cc := spec_nodes W A0 A1 A2 x.vs.length x.qs.length x.rs.length c0 c1 c2 (by have h := HF.out; omega) (by have h := HF.out; omega); with_reducible exact Grow.Upon.callB hj cc) | (have cc := HGD.out W; with_reducible exact Grow.Upon.callB hj cc)) ?_)); refine Grow.lex_norm (fun K hK => ?_); go_simp; refine hK _ ?_; clear hK K)
        refine Grow.lex_nil (fun w5 hj => ?_)
        have hb := hj.out; clear hj
        have HB5 := Aside0.mk (bel_call HB4.out hb); have HIn5 := Aside0.mk (blk_below HIn4.out hb); have HOut5 := Aside0.mk (blk_below HOut4.out hb); have HV5 := Aside0.mk (blk_below HV4.out hb); have HR05 := Aside0.mk (Kd.R_below HR04.out hb); have HR15 := Aside0.mk (Kd.R_below HR14.out hb); have HR25 := Aside0.mk (Kd.R_below HR24.out hb); have HSZ5 := Aside0.mk (Nat.le_trans HSZ4.out hb.size); have HZZ5 := Aside0.mk (blk_below HZZ4.out hb); clear hb
        rcases Nat.eq_zero_or_pos x.rs.length with hr | hr
        · have p0 : decide ((0 : Int) < (x.rs.length : Int)) = false := decide_eq_false (by omega)
          have p1 : decide (0 < x.rs.length) = false := decide_eq_false (by omega)
          have HO := Aside0.mk (show ¬(0 < x.rs.length ∧ (x.rs.getD (x.rs.length - 1) zR).lt y = false) by omega)
          have m0 : ((x.rs.length : Int) == 4000) = false := beq_false_of_ne (by omega)
          have m1 : decide ((x.rs.length : Int) = 4000) = false := decide_eq_false (by omega)
          have HV := Aside0.mk (show lineW x fs 3 = (0, ⟨x.vs, x.qs, x.rs ++ [y]⟩) by rw [HVA.out]; show addRoad x y = _; unfold addRoad Inst.nodes; rw [if_neg (by rw [HY.out]; decide), if_neg HO.out, if_neg (by omega)])
          clear hr
          obtain ⟨in1, in2⟩ := lay (Below.refl _ _) HIn5.out
          obtain ⟨out1, out2⟩ := lay (Below.refl _ _) HOut5.out
          obtain ⟨v1, v2⟩ := lay (Below.refl _ _) HV5.out
          go_wp2_with fail
          clear in1 in2 out1 out2 v1 v2
          refine Grow.wp_region_growB (by kernel_rfl) (by kernel_rfl) ?_
          repeat ((first | (refine Grow.lex_skip (by rfl) ?_) | (refine Grow.lex_do _ (by rfl) (by intro W hj; obtain ⟨in1, in2⟩ := lay (Below.refl _ _) (blk_below HIn5.out hj.out); obtain ⟨out1, out2⟩ := lay (Below.refl _ _) (blk_below HOut5.out hj.out); obtain ⟨v1, v2⟩ := lay (Below.refl _ _) (blk_below HV5.out hj.out); go_simp; first | exact Grow.Upon.val hj) ?_)); refine Grow.lex_norm (fun K hK => ?_); go_simp; refine hK _ ?_; clear hK K)
          refine Grow.lex_nil (fun w6 hj => ?_)
          have hb := hj.out; clear hj
          have HB6 := Aside0.mk (bel_call HB5.out hb); have HIn6 := Aside0.mk (blk_below HIn5.out hb); have HOut6 := Aside0.mk (blk_below HOut5.out hb); have HV6 := Aside0.mk (blk_below HV5.out hb); have HR06 := Aside0.mk (Kd.R_below HR05.out hb); have HR16 := Aside0.mk (Kd.R_below HR15.out hb); have HR26 := Aside0.mk (Kd.R_below HR25.out hb); have HSZ6 := Aside0.mk (Nat.le_trans HSZ5.out hb.size); have HZZ6 := Aside0.mk (blk_below HZZ5.out hb); clear hb
          clear p0 p1
          have HS := Aside0.mk (flat_lit (d := kRoad) rfl w6 w0.heap.size 66 [y] HB6.out.size (sl_max 1 (by decide)))
          obtain ⟨in1, in2⟩ := lay (Below.refl _ _) HIn6.out
          obtain ⟨out1, out2⟩ := lay (Below.refl _ _) HOut6.out
          obtain ⟨v1, v2⟩ := lay (Below.refl _ _) HV6.out
          go_wp2_with (first | (refine Kd.flat_append_row kRoad rfl (w0 := w0) w0.heap.size rfl _ _ 25 66 zR 24 rfl Tryz.underlying25 (by kernel_rfl) (by decide) (by decide) (.slice A2 x.rs.length c2) x.rs [y] _ _ _ rfl rfl (Kd.R_alloc HR26.out (.cells #[.int .i64 y.a, .int .i64 y.b, .int .i64 y.t] 66)) (Kd.R_reads' HS.out).2.2 (bel_box HB6.out (.cells #[.int .i64 y.a, .int .i64 y.b, .int .i64 y.t] 66)) (bel_box HB6.out (.cells #[.int .i64 y.a, .int .i64 y.b, .int .i64 y.t] 66)).size (by have h := HF.out; show (_ + 1) * 24 ≤ _; omega) ?_; intro vnew w7 hr hb hg _; clear in1 in2 out1 out2 v1 v2; have HB7 := Aside0.mk hb; have HR07 := Aside0.mk (R_apart (Kd.R_alloc HR06.out (.cells #[.int .i64 y.a, .int .i64 y.b, .int .i64 y.t] 66)) hg (own_cells (Kd.R_alloc HR26.out (.cells #[.int .i64 y.a, .int .i64 y.b, .int .i64 y.t] 66))) (by decide)); have HR17 := Aside0.mk (R_apart (Kd.R_alloc HR16.out (.cells #[.int .i64 y.a, .int .i64 y.b, .int .i64 y.t] 66)) hg (own_cells (Kd.R_alloc HR26.out (.cells #[.int .i64 y.a, .int .i64 y.b, .int .i64 y.t] 66))) (by decide)); have HIn7 := Aside0.mk (box_apart (Kd.R_alloc HR26.out (.cells #[.int .i64 y.a, .int .i64 y.b, .int .i64 y.t] 66)) hg (blk_box HIn6.out (.cells #[.int .i64 y.a, .int .i64 y.b, .int .i64 y.t] 66)) (by decide)); have HOut7 := Aside0.mk (box_apart (Kd.R_alloc HR26.out (.cells #[.int .i64 y.a, .int .i64 y.b, .int .i64 y.t] 66)) hg (blk_box HOut6.out (.cells #[.int .i64 y.a, .int .i64 y.b, .int .i64 y.t] 66)) (by decide)); have HZZ7 := Aside0.mk (box_apart (Kd.R_alloc HR26.out (.cells #[.int .i64 y.a, .int .i64 y.b, .int .i64 y.t] 66)) hg (blk_box HZZ6.out (.cells #[.int .i64 y.a, .int .i64 y.b, .int .i64 y.t] 66)) (by decide)); have HSZ7 := Aside0.mk (Nat.le_refl w7.heap.size); generalize hq : x.rs ++ [y] = vs3 at hr; have HQ := Aside0.mk hq; clear hq; obtain ⟨A3, c3, rfl⟩ := Kd.R_slice hr; have HR27 := Aside0.mk hr; clear hr hb hg; obtain ⟨in1, in2⟩ := lay (Below.refl _ _) HIn7.out; obtain ⟨out1, out2⟩ := lay (Below.refl _ _) HOut7.out) | ((with_reducible refine gate_store (t := 25) (p := 183) rfl ?_); refine wpList_put1 rfl rfl _ _ _ rfl (g := w.heap.size) (i := 2) (.slice A3 vs3.length c3) rfl rfl rfl (by kernel_rfl) rfl HIn7.out (show 2 < 3 by decide) ?_; intro w8 hX hT hz; clear hz; clear in1 in2 out1 out2; have HZZ8 := Aside0.mk (tch_ne hT HZZ7.out (Nat.ne_of_lt HZL.out)); (try simp only [List.setIfInBounds_toArray, List.set_cons_zero, List.set_cons_succ] at hX); have HB8 := Aside0.mk (hT.below w0 (fun k hk => by rw [hk]; exact HGI.out) HB7.out); have HOut8 := Aside0.mk (tch_ne hT HOut7.out (Nat.ne_of_gt (Nat.lt_succ_self _))); have HR08 := Aside0.mk (R_tch HR07.out hT HIn7.out (by decide)); have HR18 := Aside0.mk (R_tch HR17.out hT HIn7.out (by decide)); have HR28 := Aside0.mk (R_tch HR27.out hT HIn7.out (by decide)); have HSZ8 := Aside0.mk (Nat.le_trans HSZ7.out hT.size); have HIn8 := Aside0.mk hX; clear hX hT; obtain ⟨in1, in2⟩ := lay (Below.refl _ _) HIn8.out; obtain ⟨out1, out2⟩ := lay (Below.refl _ _) HOut8.out))
          clear in1 in2 out1 out2
          refine wp_region_ret (by kernel_rfl) 184 4 2 5 27 27 (.int .i64 0) ⟨rfl, rfl⟩ ⟨rfl, rfl⟩ ⟨rfl, rfl⟩ (by kernel_rfl) (by kernel_rfl) (by kernel_rfl) (by decide) (show 184 < 185 by decide) rfl rfl Tryz.underlying27 rfl (by kernel_rfl) (by rfl) HIn8.out HOut8.out (Nat.ne_of_lt (Nat.lt_succ_self _)) (List.all_eq_true.1 (show List.all [.slice A0 x.vs.length c0, .slice A1 x.qs.length c1, .slice A3 vs3.length c3] Value.oneCell' = true from rfl)) ?_
          intro w9 hX hT
          have HZZ9 := Aside0.mk (tch_ne hT HZZ8.out (Nat.ne_of_lt (Nat.lt_succ_of_lt HZL.out)))
          (try simp only [List.setIfInBounds_toArray, List.set_cons_zero, List.set_cons_succ] at hX)
          have HB9 := Aside0.mk (hT.below w0 (fun k hk => by rw [hk]; exact HGO.out) HB8.out); have HIn9 := Aside0.mk (tch_ne hT HIn8.out (Nat.ne_of_lt (Nat.lt_succ_self _))); have HR09 := Aside0.mk (R_tch HR08.out hT HOut8.out (by decide)); have HR19 := Aside0.mk (R_tch HR18.out hT HOut8.out (by decide)); have HR29 := Aside0.mk (R_tch HR28.out hT HOut8.out (by decide)); have HSZ9 := Aside0.mk (Nat.le_trans HSZ8.out hT.size); have HOut9 := Aside0.mk hX; clear hX hT
          go_wp2_with fail
          refine bodyPost_ret (results_two Tryz.results13 rfl HOut9.out Tryz.underlying27 rfl (by kernel_rfl)) rfl ?_
          exact ⟨_, by rw [HV.out]; rfl, by rw [HV.out]; exact ⟨_, _, _, rfl, HR09.out, HR19.out, (by rw [HQ.out]; exact HR29.out)⟩, HB9.out, HZZ9.out⟩
        have p0 : decide ((0 : Int) < (x.rs.length : Int)) = true := decide_eq_true (by omega)
        have p1 : decide (0 < x.rs.length) = true := decide_eq_true hr
        obtain ⟨j, hj0⟩ : ∃ j, x.rs.length = j + 1 := ⟨x.rs.length - 1, by omega⟩
        obtain ⟨ad, e0, t0, t1⟩ := Kd.flat_cells (d := kRoad) rfl (Kd.R_reads' HR25.out).2.2 zR j (by omega)
        subst e0
        have hF := HF.out.2.2
        have d0 := t0 _ rfl; have d1 := t1 0 _ rfl; have d2 := t1 1 _ rfl; clear t0 t1
        have HLJ := Aside0.mk (show x.rs.getD (x.rs.length - 1) zR = x.rs.getD j zR by rw [hj0]; rfl)
        generalize x.rs.getD j zR = z at d0 d1 d2 HLJ
        have q0 : IntKind.i64.wrap ((x.rs.length : Int) - 1) = (j : Int) := by rw [IntWalk.i64_in _ (by omega)]; omega
        have hlj : (j : Int) < (x.rs.length : Int) := by omega
        have hlk : j < x.rs.length := by omega
        have HJ := Aside0.mk hj0; clear hj0 hF
        have HD := Aside0.mk (And.intro d0 (And.intro d1 d2)); clear d0 d1 d2
        cases hlt : z.lt y with
        | false =>
          have HZ := Aside0.mk hlt; clear hlt
          have HBF := Aside0.mk (show ∀ W : World, Calls Tryz.prog 31 #[.agg #[.int .i64 z.a, .int .i64 z.b, .int .i64 z.t], .agg #[.int .i64 y.a, .int .i64 y.b, .int .i64 y.t]] W fun e w' => e = .returned (.bool false) ∧ Below W.heap.size W w' from fun W => by have h := spec_before W z y; rw [HZ.out] at h; exact h)
          have HO := Aside0.mk (show (0 < x.rs.length ∧ (x.rs.getD (x.rs.length - 1) zR).lt y = false) ↔ True by rw [HLJ.out, HZ.out]; simp; exact hr)
          have HV := Aside0.mk (show lineW x fs 3 = (8, x) by rw [HVA.out]; show addRoad x y = _; unfold addRoad Inst.nodes; rw [if_neg (by rw [HY.out]; decide), if_pos (HO.out.2 trivial)])
          clear hr
          obtain ⟨in1, in2⟩ := lay (Below.refl _ _) HIn5.out
          obtain ⟨out1, out2⟩ := lay (Below.refl _ _) HOut5.out
          obtain ⟨v1, v2⟩ := lay (Below.refl _ _) HV5.out
          go_wp2_with fail
          clear in1 in2 out1 out2 v1 v2
          refine Grow.wp_region_growB (by kernel_rfl) (by kernel_rfl) ?_
          repeat ((first | (refine Grow.lex_skip (by rfl) ?_) | (refine Grow.lex_do _ (by rfl) (by intro W hj; obtain ⟨in1, in2⟩ := lay (Below.refl _ _) (blk_below HIn5.out hj.out); obtain ⟨out1, out2⟩ := lay (Below.refl _ _) (blk_below HOut5.out hj.out); obtain ⟨v1, v2⟩ := lay (Below.refl _ _) (blk_below HV5.out hj.out); have s0 := pw_cell_below hj.out HD.out.1; have s1 := pw_cell_below hj.out HD.out.2.1; have s2 := pw_cell_below hj.out HD.out.2.2; go_simp; first | exact Grow.Upon.val hj | (have cc := HBF.out W; with_reducible exact Grow.Upon.callB hj cc)) ?_)); refine Grow.lex_norm (fun K hK => ?_); go_simp; refine hK _ ?_; clear hK K)
          refine Grow.lex_nil (fun w6 hj => ?_)
          have hb := hj.out; clear hj
          have HB6 := Aside0.mk (bel_call HB5.out hb); have HIn6 := Aside0.mk (blk_below HIn5.out hb); have HOut6 := Aside0.mk (blk_below HOut5.out hb); have HV6 := Aside0.mk (blk_below HV5.out hb); have HR06 := Aside0.mk (Kd.R_below HR05.out hb); have HR16 := Aside0.mk (Kd.R_below HR15.out hb); have HR26 := Aside0.mk (Kd.R_below HR25.out hb); have HSZ6 := Aside0.mk (Nat.le_trans HSZ5.out hb.size); have HZZ6 := Aside0.mk (blk_below HZZ5.out hb); clear hb
          obtain ⟨in1, in2⟩ := lay (Below.refl _ _) HIn6.out
          obtain ⟨out1, out2⟩ := lay (Below.refl _ _) HOut6.out
          obtain ⟨v1, v2⟩ := lay (Below.refl _ _) HV6.out
          go_wp2_with fail
          clear in1 in2 out1 out2 v1 v2
          refine wp_region_ret (by kernel_rfl) 172 4 2 5 27 27 (.int .i64 8) ⟨rfl, rfl⟩ ⟨rfl, rfl⟩ ⟨rfl, rfl⟩ (by kernel_rfl) (by kernel_rfl) (by kernel_rfl) (by decide) (show 172 < 185 by decide) rfl rfl Tryz.underlying27 rfl (by kernel_rfl) (by rfl) HIn6.out HOut6.out (Nat.ne_of_lt (Nat.lt_succ_self _)) (List.all_eq_true.1 (show List.all [.slice A0 x.vs.length c0, .slice A1 x.qs.length c1, .slice (some ad) x.rs.length c2] Value.oneCell' = true from rfl)) ?_
          intro w7 hX hT
          have HZZ7 := Aside0.mk (tch_ne hT HZZ6.out (Nat.ne_of_lt (Nat.lt_succ_of_lt HZL.out)))
          (try simp only [List.setIfInBounds_toArray, List.set_cons_zero, List.set_cons_succ] at hX)
          have HB7 := Aside0.mk (hT.below w0 (fun k hk => by rw [hk]; exact HGO.out) HB6.out); have HIn7 := Aside0.mk (tch_ne hT HIn6.out (Nat.ne_of_lt (Nat.lt_succ_self _))); have HV7 := Aside0.mk (tch_keep hT HOut6.out HV6.out (by decide)); have HR07 := Aside0.mk (R_tch HR06.out hT HOut6.out (by decide)); have HR17 := Aside0.mk (R_tch HR16.out hT HOut6.out (by decide)); have HR27 := Aside0.mk (R_tch HR26.out hT HOut6.out (by decide)); have HSZ7 := Aside0.mk (Nat.le_trans HSZ6.out hT.size); have HOut7 := Aside0.mk hX; clear hX hT
          go_wp2_with fail
          refine bodyPost_ret (results_two Tryz.results13 rfl HOut7.out Tryz.underlying27 rfl (by kernel_rfl)) rfl ?_
          exact ⟨_, by rw [HV.out]; rfl, by rw [HV.out]; exact ⟨_, _, _, rfl, HR07.out, HR17.out, HR27.out⟩, HB7.out, HZZ7.out⟩
        | true =>
          have HZ := Aside0.mk hlt; clear hlt
          have HBF := Aside0.mk (show ∀ W : World, Calls Tryz.prog 31 #[.agg #[.int .i64 z.a, .int .i64 z.b, .int .i64 z.t], .agg #[.int .i64 y.a, .int .i64 y.b, .int .i64 y.t]] W fun e w' => e = .returned (.bool true) ∧ Below W.heap.size W w' from fun W => by have h := spec_before W z y; rw [HZ.out] at h; exact h)
          have HO := Aside0.mk (show (0 < x.rs.length ∧ (x.rs.getD (x.rs.length - 1) zR).lt y = false) ↔ False by rw [HLJ.out, HZ.out]; simp)
          clear hr
          obtain ⟨in1, in2⟩ := lay (Below.refl _ _) HIn5.out
          obtain ⟨out1, out2⟩ := lay (Below.refl _ _) HOut5.out
          obtain ⟨v1, v2⟩ := lay (Below.refl _ _) HV5.out
          go_wp2_with fail
          clear in1 in2 out1 out2 v1 v2
          refine Grow.wp_region_growB (by kernel_rfl) (by kernel_rfl) ?_
          repeat ((first | (refine Grow.lex_skip (by rfl) ?_) | (refine Grow.lex_do _ (by rfl) (by intro W hj; obtain ⟨in1, in2⟩ := lay (Below.refl _ _) (blk_below HIn5.out hj.out); obtain ⟨out1, out2⟩ := lay (Below.refl _ _) (blk_below HOut5.out hj.out); obtain ⟨v1, v2⟩ := lay (Below.refl _ _) (blk_below HV5.out hj.out); have s0 := pw_cell_below hj.out HD.out.1; have s1 := pw_cell_below hj.out HD.out.2.1; have s2 := pw_cell_below hj.out HD.out.2.2; go_simp; first | exact Grow.Upon.val hj | (have cc := HBF.out W; with_reducible exact Grow.Upon.callB hj cc)) ?_)); refine Grow.lex_norm (fun K hK => ?_); go_simp; refine hK _ ?_; clear hK K)
          refine Grow.lex_nil (fun w6 hj => ?_)
          have hb := hj.out; clear hj
          have HB6 := Aside0.mk (bel_call HB5.out hb); have HIn6 := Aside0.mk (blk_below HIn5.out hb); have HOut6 := Aside0.mk (blk_below HOut5.out hb); have HV6 := Aside0.mk (blk_below HV5.out hb); have HR06 := Aside0.mk (Kd.R_below HR05.out hb); have HR16 := Aside0.mk (Kd.R_below HR15.out hb); have HR26 := Aside0.mk (Kd.R_below HR25.out hb); have HSZ6 := Aside0.mk (Nat.le_trans HSZ5.out hb.size); have HZZ6 := Aside0.mk (blk_below HZZ5.out hb); clear hb
          clear p0 p1 q0 hlj hlk
          by_cases hm : x.rs.length = 4000
          · have m0 : ((x.rs.length : Int) == 4000) = true := by rw [hm]; rfl
            have m1 : decide ((x.rs.length : Int) = 4000) = true := decide_eq_true (by omega)
            have HV := Aside0.mk (show lineW x fs 3 = (9, x) by rw [HVA.out]; show addRoad x y = _; unfold addRoad Inst.nodes; rw [if_neg (by rw [HY.out]; decide), if_neg HO.out.1, if_pos hm])
            clear hm
            obtain ⟨in1, in2⟩ := lay (Below.refl _ _) HIn6.out
            obtain ⟨out1, out2⟩ := lay (Below.refl _ _) HOut6.out
            obtain ⟨v1, v2⟩ := lay (Below.refl _ _) HV6.out
            go_wp2_with fail
            clear in1 in2 out1 out2 v1 v2
            refine wp_region_ret (by kernel_rfl) 177 4 2 5 27 27 (.int .i64 9) ⟨rfl, rfl⟩ ⟨rfl, rfl⟩ ⟨rfl, rfl⟩ (by kernel_rfl) (by kernel_rfl) (by kernel_rfl) (by decide) (show 177 < 185 by decide) rfl rfl Tryz.underlying27 rfl (by kernel_rfl) (by rfl) HIn6.out HOut6.out (Nat.ne_of_lt (Nat.lt_succ_self _)) (List.all_eq_true.1 (show List.all [.slice A0 x.vs.length c0, .slice A1 x.qs.length c1, .slice (some ad) x.rs.length c2] Value.oneCell' = true from rfl)) ?_
            intro w7 hX hT
            have HZZ7 := Aside0.mk (tch_ne hT HZZ6.out (Nat.ne_of_lt (Nat.lt_succ_of_lt HZL.out)))
            (try simp only [List.setIfInBounds_toArray, List.set_cons_zero, List.set_cons_succ] at hX)
            have HB7 := Aside0.mk (hT.below w0 (fun k hk => by rw [hk]; exact HGO.out) HB6.out); have HIn7 := Aside0.mk (tch_ne hT HIn6.out (Nat.ne_of_lt (Nat.lt_succ_self _))); have HV7 := Aside0.mk (tch_keep hT HOut6.out HV6.out (by decide)); have HR07 := Aside0.mk (R_tch HR06.out hT HOut6.out (by decide)); have HR17 := Aside0.mk (R_tch HR16.out hT HOut6.out (by decide)); have HR27 := Aside0.mk (R_tch HR26.out hT HOut6.out (by decide)); have HSZ7 := Aside0.mk (Nat.le_trans HSZ6.out hT.size); have HOut7 := Aside0.mk hX; clear hX hT
            go_wp2_with fail
            refine bodyPost_ret (results_two Tryz.results13 rfl HOut7.out Tryz.underlying27 rfl (by kernel_rfl)) rfl ?_
            exact ⟨_, by rw [HV.out]; rfl, by rw [HV.out]; exact ⟨_, _, _, rfl, HR07.out, HR17.out, HR27.out⟩, HB7.out, HZZ7.out⟩
          have m0 : ((x.rs.length : Int) == 4000) = false := beq_false_of_ne (by omega)
          have m1 : decide ((x.rs.length : Int) = 4000) = false := decide_eq_false (by omega)
          have HV := Aside0.mk (show lineW x fs 3 = (0, ⟨x.vs, x.qs, x.rs ++ [y]⟩) by rw [HVA.out]; show addRoad x y = _; unfold addRoad Inst.nodes; rw [if_neg (by rw [HY.out]; decide), if_neg HO.out.1, if_neg hm])
          clear hm
          have HS := Aside0.mk (flat_lit (d := kRoad) rfl w6 w0.heap.size 66 [y] HB6.out.size (sl_max 1 (by decide)))
          obtain ⟨in1, in2⟩ := lay (Below.refl _ _) HIn6.out
          obtain ⟨out1, out2⟩ := lay (Below.refl _ _) HOut6.out
          obtain ⟨v1, v2⟩ := lay (Below.refl _ _) HV6.out
          go_wp2_with (first | (refine Kd.flat_append_row kRoad rfl (w0 := w0) w0.heap.size rfl _ _ 25 66 zR 24 rfl Tryz.underlying25 (by kernel_rfl) (by decide) (by decide) (.slice (some ad) x.rs.length c2) x.rs [y] _ _ _ rfl rfl (Kd.R_alloc HR26.out (.cells #[.int .i64 y.a, .int .i64 y.b, .int .i64 y.t] 66)) (Kd.R_reads' HS.out).2.2 (bel_box HB6.out (.cells #[.int .i64 y.a, .int .i64 y.b, .int .i64 y.t] 66)) (bel_box HB6.out (.cells #[.int .i64 y.a, .int .i64 y.b, .int .i64 y.t] 66)).size (by have h := HF.out; show (_ + 1) * 24 ≤ _; omega) ?_; intro vnew w7 hr hb hg _; clear in1 in2 out1 out2 v1 v2; have HB7 := Aside0.mk hb; have HR07 := Aside0.mk (R_apart (Kd.R_alloc HR06.out (.cells #[.int .i64 y.a, .int .i64 y.b, .int .i64 y.t] 66)) hg (own_cells (Kd.R_alloc HR26.out (.cells #[.int .i64 y.a, .int .i64 y.b, .int .i64 y.t] 66))) (by decide)); have HR17 := Aside0.mk (R_apart (Kd.R_alloc HR16.out (.cells #[.int .i64 y.a, .int .i64 y.b, .int .i64 y.t] 66)) hg (own_cells (Kd.R_alloc HR26.out (.cells #[.int .i64 y.a, .int .i64 y.b, .int .i64 y.t] 66))) (by decide)); have HIn7 := Aside0.mk (box_apart (Kd.R_alloc HR26.out (.cells #[.int .i64 y.a, .int .i64 y.b, .int .i64 y.t] 66)) hg (blk_box HIn6.out (.cells #[.int .i64 y.a, .int .i64 y.b, .int .i64 y.t] 66)) (by decide)); have HOut7 := Aside0.mk (box_apart (Kd.R_alloc HR26.out (.cells #[.int .i64 y.a, .int .i64 y.b, .int .i64 y.t] 66)) hg (blk_box HOut6.out (.cells #[.int .i64 y.a, .int .i64 y.b, .int .i64 y.t] 66)) (by decide)); have HZZ7 := Aside0.mk (box_apart (Kd.R_alloc HR26.out (.cells #[.int .i64 y.a, .int .i64 y.b, .int .i64 y.t] 66)) hg (blk_box HZZ6.out (.cells #[.int .i64 y.a, .int .i64 y.b, .int .i64 y.t] 66)) (by decide)); have HSZ7 := Aside0.mk (Nat.le_refl w7.heap.size); generalize hq : x.rs ++ [y] = vs3 at hr; have HQ := Aside0.mk hq; clear hq; obtain ⟨A3, c3, rfl⟩ := Kd.R_slice hr; have HR27 := Aside0.mk hr; clear hr hb hg; obtain ⟨in1, in2⟩ := lay (Below.refl _ _) HIn7.out; obtain ⟨out1, out2⟩ := lay (Below.refl _ _) HOut7.out) | ((with_reducible refine gate_store (t := 25) (p := 183) rfl ?_); refine wpList_put1 rfl rfl _ _ _ rfl (g := w.heap.size) (i := 2) (.slice A3 vs3.length c3) rfl rfl rfl (by kernel_rfl) rfl HIn7.out (show 2 < 3 by decide) ?_; intro w8 hX hT hz; clear hz; clear in1 in2 out1 out2; have HZZ8 := Aside0.mk (tch_ne hT HZZ7.out (Nat.ne_of_lt HZL.out)); (try simp only [List.setIfInBounds_toArray, List.set_cons_zero, List.set_cons_succ] at hX); have HB8 := Aside0.mk (hT.below w0 (fun k hk => by rw [hk]; exact HGI.out) HB7.out); have HOut8 := Aside0.mk (tch_ne hT HOut7.out (Nat.ne_of_gt (Nat.lt_succ_self _))); have HR08 := Aside0.mk (R_tch HR07.out hT HIn7.out (by decide)); have HR18 := Aside0.mk (R_tch HR17.out hT HIn7.out (by decide)); have HR28 := Aside0.mk (R_tch HR27.out hT HIn7.out (by decide)); have HSZ8 := Aside0.mk (Nat.le_trans HSZ7.out hT.size); have HIn8 := Aside0.mk hX; clear hX hT; obtain ⟨in1, in2⟩ := lay (Below.refl _ _) HIn8.out; obtain ⟨out1, out2⟩ := lay (Below.refl _ _) HOut8.out))
          clear in1 in2 out1 out2
          refine wp_region_ret (by kernel_rfl) 184 4 2 5 27 27 (.int .i64 0) ⟨rfl, rfl⟩ ⟨rfl, rfl⟩ ⟨rfl, rfl⟩ (by kernel_rfl) (by kernel_rfl) (by kernel_rfl) (by decide) (show 184 < 185 by decide) rfl rfl Tryz.underlying27 rfl (by kernel_rfl) (by rfl) HIn8.out HOut8.out (Nat.ne_of_lt (Nat.lt_succ_self _)) (List.all_eq_true.1 (show List.all [.slice A0 x.vs.length c0, .slice A1 x.qs.length c1, .slice A3 vs3.length c3] Value.oneCell' = true from rfl)) ?_
          intro w9 hX hT
          have HZZ9 := Aside0.mk (tch_ne hT HZZ8.out (Nat.ne_of_lt (Nat.lt_succ_of_lt HZL.out)))
          (try simp only [List.setIfInBounds_toArray, List.set_cons_zero, List.set_cons_succ] at hX)
          have HB9 := Aside0.mk (hT.below w0 (fun k hk => by rw [hk]; exact HGO.out) HB8.out); have HIn9 := Aside0.mk (tch_ne hT HIn8.out (Nat.ne_of_lt (Nat.lt_succ_self _))); have HR09 := Aside0.mk (R_tch HR08.out hT HOut8.out (by decide)); have HR19 := Aside0.mk (R_tch HR18.out hT HOut8.out (by decide)); have HR29 := Aside0.mk (R_tch HR28.out hT HOut8.out (by decide)); have HSZ9 := Aside0.mk (Nat.le_trans HSZ8.out hT.size); have HOut9 := Aside0.mk hX; clear hX hT
          go_wp2_with fail
          refine bodyPost_ret (results_two Tryz.results13 rfl HOut9.out Tryz.underlying27 rfl (by kernel_rfl)) rfl ?_
          exact ⟨_, by rw [HV.out]; rfl, by rw [HV.out]; exact ⟨_, _, _, rfl, HR09.out, HR19.out, (by rw [HQ.out]; exact HR29.out)⟩, HB9.out, HZZ9.out⟩
end
end Go.Proofs.YtogjkkbhmanbmaaGreatDoor.L1
