/- A line, as the program reads it: kind 2. -/
import Derived.Test.YtbccaabaplbmhaaGreatDoorQT9
import Derived.Deep.Cut
import Derived.Deep.CutRange
import Derived.Test.YtbccaabaplbmhaaGreatDoorQT4
namespace Go.Proofs.YtbccaabaplbmhaaGreatDoor.L1
open Go.RowKit Go.Proofs.YtbccaabaplbmhaaGreatDoorW.PrintWords Go.Proofs.YtbccaabaplbmhaaGreatDoor.B
set_option linter.unusedVariables false
set_option linter.unusedSimpArgs false
attribute [local go_sem] mk_cell mk_frozen
section
variable (w : World)
set_option maxRecDepth 100000 in
set_option maxHeartbeats 8000000 in
theorem impl_line2 (w0 : World) (hG : Gl w0) (gi gk : Nat) (A0 A1 A2 : Option Addr) (c0 c1 c2 : Nat) (x : Inst) (hI : w.heap[gi]? = some (.cells #[.slice A0 x.vs.length c0, .slice A1 x.qs.length c1, .slice A2 x.rs.length c2] 27 (0, 0))) (hK : w.heap[gk]? = some (.cells #[.int .i64 (kindNo x)] 3 (0, 0))) (h0 : kVeh.R 45 w w0.heap.size (fun _ => True) (.slice A0 x.vs.length c0) x.vs) (h1 : kReq.R 48 w w0.heap.size (fun _ => True) (.slice A1 x.qs.length c1) x.qs) (h2 : kRoad.R 51 w w0.heap.size (fun _ => True) (.slice A2 x.rs.length c2) x.rs)
    (hB : Below w0.heap.size w0 w) (hgi : w0.heap.size ≤ gi) (hgk : w0.heap.size ≤ gk) (hf : x.tiny) (s : ByteArray) (hz : s.size ≤ 1048576) (hk : kindOf ((pieces 32 (bytesOf s)).getD 0 []) = 2) : Calls Tryz.prog 26 #[.pointer (some ⟨gi, 0, none⟩), .string s, .pointer (some ⟨gk, 0, none⟩)] w fun e w' => LineEnd w w0 gi gk (.slice A0 x.vs.length c0) (.slice A1 x.qs.length c1) (.slice A2 x.rs.length c2) (lineP x (bytesOf s)) e w' := by
  have HGL := Aside0.mk hG; have HZ := Aside0.mk hz; have HXT := Aside0.mk hf; have HGI := Aside0.mk hgi; have HGK := Aside0.mk hgk
  have HI0 := Aside0.mk hI; have HK0 := Aside0.mk hK; have HB0 := Aside0.mk hB; have HR00 := Aside0.mk h0; have HR10 := Aside0.mk h1; have HR20 := Aside0.mk h2
  have HT0 := Aside0.mk (Tch.refl (fun k => k = gi ∨ k = gk ∨ some k = (Value.slice A0 x.vs.length c0).ownBlock ∨ some k = (Value.slice A1 x.qs.length c1).ownBlock ∨ some k = (Value.slice A2 x.rs.length c2).ownBlock) w)
  have HSZ0 := Aside0.mk (Nat.le_refl w.heap.size)
  have HIL := Aside0.mk (blk_lt' hI); have HKL := Aside0.mk (blk_lt' hK)
  obtain ⟨fs, hfs⟩ : ∃ fs, pieces 32 (bytesOf s) = fs := ⟨_, rfl⟩
  rw [show lineP x (bytesOf s) = lineW x (pieces 32 (bytesOf s)) (kindOf ((pieces 32 (bytesOf s)).getD 0 [])) from rfl, hk, hfs]
  rw [hfs] at hk
  have HFS := Aside0.mk hfs; have HKD := Aside0.mk hk
  clear hfs hk hG hz hf hgi hgk hI hK hB h0 h1 h2
  go_enter Tryz.func26, Tryz.ntmps26
  obtain ⟨i1, i2⟩ := lay (Below.refl _ _) HI0.out
  obtain ⟨k1, k2⟩ := lay (Below.refl _ _) HK0.out
  go_wp2_with fail
  clear i1 i2 k1 k2
  go_at_call 47
  refine (impl_split w0 _ HGL.out HB0.out s HZ.out).mono ?_
  rintro e w1 ⟨ss, n, rfl, hsl, hnn, hws, hst, hb⟩
  have HB1 := Aside0.mk (bel_call HB0.out hb); have HI1 := Aside0.mk (blk_below HI0.out hb); have HK1 := Aside0.mk (blk_below HK0.out hb); have HR01 := Aside0.mk (Kd.R_below HR00.out hb); have HR11 := Aside0.mk (Kd.R_below HR10.out hb); have HR21 := Aside0.mk (Kd.R_below HR20.out hb); have HSZ1 := Aside0.mk (Nat.le_trans HSZ0.out hb.size); have HS1 := Aside0.mk hst; have HWS := Aside0.mk (show wordsOf ss = fs from hws.trans HFS.out); have HSL := Aside0.mk hsl; clear hsl hws hst; have HT1 := Aside0.mk (HT0.out.trans (Tch.of_below hb)); clear hb
  have HBI := Aside0.mk (Nat.ne_of_gt HIL.out); have HBK := Aside0.mk (Nat.ne_of_gt HKL.out)
  have HFL := Aside0.mk (show fs.length = n + 1 by rw [← HWS.out]; unfold wordsOf; rw [List.length_map, HSL.out])
  have HAT := Aside0.mk (fun j => show bytesOf (strAt ss j) = fs.getD j [] by rw [← HWS.out, wordsOf_at])
  have hpos : 0 < n + 1 := Nat.succ_pos _
  obtain ⟨i1, i2⟩ := lay (Below.refl _ _) HI1.out
  obtain ⟨k1, k2⟩ := lay (Below.refl _ _) HK1.out
  go_wp2_with ((with_reducible refine gate_store (t := 96) (p := 7) rfl ?_); have hsz := HSZ1.out; have HB2 := Aside0.mk (bel_box HB1.out (.cells #[.slice none 0 0, .bool false] 96)); have HI2 := Aside0.mk (blk_box HI1.out (.cells #[.slice none 0 0, .bool false] 96)); have HK2 := Aside0.mk (blk_box HK1.out (.cells #[.slice none 0 0, .bool false] 96)); have HR02 := Aside0.mk (Kd.R_below HR01.out (below_alloc (Below.refl _ _) (.cells #[.slice none 0 0, .bool false] 96))); have HR12 := Aside0.mk (Kd.R_below HR11.out (below_alloc (Below.refl _ _) (.cells #[.slice none 0 0, .bool false] 96))); have HR22 := Aside0.mk (Kd.R_below HR21.out (below_alloc (Below.refl _ _) (.cells #[.slice none 0 0, .bool false] 96))); have HSZ2 := Aside0.mk (Nat.le_trans HSZ1.out (below_alloc (Below.refl _ _) (.cells #[.slice none 0 0, .bool false] 96)).size); have HFb2 := Aside0.mk (al_new w1 (.cells #[.slice none 0 0, .bool false] 96)); have HGFb := Aside0.mk (Nat.le_trans HB1.out.size (Nat.le_refl w1.heap.size)); clear hsz; have HGF := Aside0.mk (show w0.heap.size ≤ w1.heap.size from HB1.out.size); have HGFbw := Aside0.mk (show w.heap.size ≤ w1.heap.size from HSZ1.out); have HGFw := HGFbw; have HBF := Aside0.mk (show w.heap.size ≠ w1.heap.size from by have h1 := (HS1.out.1 0 (by rw [HSL.out]; exact Nat.succ_pos _)); have h2 := cell_size h1; omega); have HT2 := Aside0.mk (HT1.out.trans (Tch.of_below (below_alloc (Below.refl _ _) (.cells #[.slice none 0 0, .bool false] 96)))); have HS2 := Aside0.mk (HS1.out.below (below_alloc (Below.refl _ _) (.cells #[.slice none 0 0, .bool false] 96))); refine wpList_putAll rfl rfl _ _ _ rfl (g := w1.heap.size) [.slice (some ⟨w.heap.size, 0, none⟩) (n + 1) (n + 1), .bool false] rfl rfl (by kernel_rfl) (List.all_eq_true.1 (show List.all [.slice (some ⟨w.heap.size, 0, none⟩) (n + 1) (n + 1), .bool false] Value.oneCell' = true from rfl)) HFb2.out rfl ?_; intro w3 hX hT hz; clear hz; clear i1 i2 k1 k2; have HT3 := Aside0.mk (tch_new HT2.out hT HGFbw.out); have HS3 := Aside0.mk (HS2.out.tch hT (HBF.out)); (try simp only [List.setIfInBounds_toArray, List.set_cons_zero, List.set_cons_succ] at hX); have HB3 := Aside0.mk (hT.below w0 (fun k hk => by rw [hk]; exact HGFb.out) HB2.out); have HI3 := Aside0.mk (tch_keep hT HFb2.out HI2.out (by decide)); have HK3 := Aside0.mk (tch_keep hT HFb2.out HK2.out (by decide)); have HR03 := Aside0.mk (R_tch HR02.out hT HFb2.out (by decide)); have HR13 := Aside0.mk (R_tch HR12.out hT HFb2.out (by decide)); have HR23 := Aside0.mk (R_tch HR22.out hT HFb2.out (by decide)); have HSZ3 := Aside0.mk (Nat.le_trans HSZ2.out hT.size); have HFb3 := Aside0.mk hX; clear hX hT; obtain ⟨i1, i2⟩ := lay (Below.refl _ _) HI3.out; obtain ⟨k1, k2⟩ := lay (Below.refl _ _) HK3.out; obtain ⟨fb1, fb2⟩ := lay (Below.refl _ _) HFb3.out)
  clear i1 i2 k1 k2 fb1 fb2
  have HF3 := Aside0.mk (show FAt w3 w1.heap.size w.heap.size 0 (n + 1) false from ⟨_, HFb3.out, fun _ => rfl⟩)
  go_at_call 48
  refine (impl_next _ w1.heap.size w.heap.size 0 n false (strAt ss 0) HF3.out (HS3.out.1 0 (by rw [HSL.out]; exact hpos))).mono ?_
  rintro e w4 ⟨rfl, hF, hT⟩
  obtain ⟨pf, hf1, _⟩ := HF3.out
  have HF4 := Aside0.mk hF; have HT4 := Aside0.mk (tch_new HT3.out hT HGFw.out); have HB4 := Aside0.mk (hT.below w0 (fun k hk => by rw [hk]; exact HGF.out) HB3.out); have HS4 := Aside0.mk (HS3.out.tch hT HBF.out); have HSZ4 := Aside0.mk (Nat.le_trans HSZ3.out hT.size); have HI4 := Aside0.mk (tch_keep hT hf1 HI3.out (by decide)); have HK4 := Aside0.mk (tch_keep hT hf1 HK3.out (by decide)); have HR04 := Aside0.mk (R_tch HR03.out hT hf1 (by decide)); have HR14 := Aside0.mk (R_tch HR13.out hT hf1 (by decide)); have HR24 := Aside0.mk (R_tch HR23.out hT hf1 (by decide)); clear hF hT hf1
  have HW0 := Aside0.mk (show bytesOf (strAt ss 0) = fs.getD 0 [] from HAT.out 0)
  have e0 := str_eq' (strAt ss 0) [118, 101, 104, 105, 99, 108, 101]
  have e1 := str_eq' (strAt ss 0) [114, 101, 113, 117, 101, 115, 116]
  have e2 := str_eq' (strAt ss 0) [114, 111, 97, 100]
  rw [HW0.out] at e0 e1 e2
  have hne := HKD.out
  unfold kindOf at hne
  by_cases g0 : fs.getD 0 [] = wVehicle
  · rw [if_pos g0] at hne; cases hne
  rw [if_neg g0] at hne
  have g1 : fs.getD 0 [] = wRequest := by
    by_cases g1 : fs.getD 0 [] = wRequest
    · exact g1
    · rw [if_neg g1] at hne; split at hne <;> cases hne
  rw [decide_eq_false (show ¬ fs.getD 0 [] = ofU [118, 101, 104, 105, 99, 108, 101] from g0)] at e0
  rw [decide_eq_true (show fs.getD 0 [] = ofU [114, 101, 113, 117, 101, 115, 116] from g1)] at e1
  clear e2
  clear hne g0 g1
  obtain ⟨kc0, kc1, kc2, kc3, kc4, kc5⟩ := HGL.out.kinds
  have HKC := Aside0.mk (And.intro (pw_cell_below HB4.out kc0) (And.intro (pw_cell_below HB4.out kc1) (And.intro (pw_cell_below HB4.out kc2) (And.intro (pw_cell_below HB4.out kc3) (And.intro (pw_cell_below HB4.out kc4) (pw_cell_below HB4.out kc5))))))
  clear kc0 kc1 kc2 kc3 kc4 kc5
  obtain ⟨i1, i2⟩ := lay (Below.refl _ _) HI4.out
  obtain ⟨k1, k2⟩ := lay (Below.refl _ _) HK4.out
  go_wp2_with fail
  clear i1 i2 k1 k2
  go_loopg [10] 4 (fun q v10 wr => ∃ a : Nat, q = 4 - a ∧ a ≤ 1 ∧ v10 = .int .i64 a ∧ w4 = wr)
  case atStart => exact ⟨0, by omega, by omega, rfl, rfl⟩
  case round =>
    obtain ⟨a, rfl, ha, rfl, rfl⟩ := hrel
    obtain ⟨kc0, kc1, kc2, kc3, kc4, kc5⟩ := HKC.out
    rcases (show a = 0 ∨ a = 1 by omega) with rfl | rfl
    · go_wp2
      go_roundg (4 - (0 + 1))
      case measure => omega
      case rel => exact ⟨0 + 1, rfl, by omega, rfl, rfl⟩
    · skip
      by_cases hc : (0 < x.rs.length ∧ (2 : Int) < 3) ∨ (0 < x.qs.length ∧ (2 : Int) < 2)
      · skip
        have HV := Aside0.mk (show lineW x fs 2 = (4, x) by unfold lineW; rw [if_neg (by decide), if_pos hc])
        have k0 : decide ((1 : Int) < kindNo x) = true := decide_eq_true (by unfold kindNo; split <;> (try split) <;> omega)
        clear hc
        obtain ⟨i1, i2⟩ := lay (Below.refl _ _) HI4.out
        obtain ⟨k1, k2⟩ := lay (Below.refl _ _) HK4.out
        go_wp2
        go_ret
        exact ⟨Or.inr ⟨by rw [HV.out]; show (4 : Int) ≠ 0; decide, by rw [HV.out]; rfl⟩, HT4.out⟩
      have k0 : decide ((1 : Int) < kindNo x) = false := decide_eq_false (by unfold kindNo; split <;> (try split) <;> omega)
      have HO := Aside0.mk hc; clear hc
      by_cases hn : n = 12
      rotate_left
      · skip
        have HV := Aside0.mk (show lineW x fs 2 = (5, x) by unfold lineW; rw [if_neg (by decide), if_neg HO.out, if_pos (by rw [HFL.out]; intro h; have h2 : n + 1 = 13 := h; omega)])
        have n0 : ((n : Int) + 1 == 13) = false := beq_false_of_ne (by omega)
        have n1 : decide ((n : Int) + 1 = 13) = false := decide_eq_false (by omega)
        have n2 : ((n : Int) + 1 != 13) = true := by rw [bne, n0]; rfl
        clear hn
        obtain ⟨i1, i2⟩ := lay (Below.refl _ _) HI4.out
        obtain ⟨k1, k2⟩ := lay (Below.refl _ _) HK4.out
        go_wp2
        go_ret
        exact ⟨Or.inr ⟨by rw [HV.out]; show (5 : Int) ≠ 0; decide, by rw [HV.out]; rfl⟩, HT4.out⟩
      subst hn
      clear hpos
      have HLW := Aside0.mk (lineW_form (K := 2) (r := addReq x (reqOf fs)) (by decide) HO.out (by rw [HFL.out]; rfl) rfl)
      rw [HFL.out] at HLW
      obtain ⟨i1, i2⟩ := lay (Below.refl _ _) HI4.out
      obtain ⟨k1, k2⟩ := lay (Below.refl _ _) HK4.out
      go_wp2_with ((with_reducible refine gate_store (t := 3) (p := 60) rfl ?_); refine wpList_put1 rfl rfl _ _ _ rfl (g := gk) (i := 0) (.int .i64 1) rfl rfl rfl (by kernel_rfl) rfl HK4.out (show 0 < 1 by decide) ?_; intro w5 hX hT hz; clear hz; clear i1 i2 k1 k2; have HT5 := Aside0.mk (HT4.out.trans (hT.mono fun k hk => Or.inr (Or.inl hk))); have HS5 := Aside0.mk (HS4.out.tch hT (HBK.out)); have HF5 := Aside0.mk (show FAt w5 w1.heap.size w.heap.size 1 12 false from by obtain ⟨q, h1, h2⟩ := HF4.out; exact ⟨q, tch_keep hT HK4.out h1 (by decide), h2⟩); (try simp only [List.setIfInBounds_toArray, List.set_cons_zero, List.set_cons_succ] at hX); have HB5 := Aside0.mk (hT.below w0 (fun k hk => by rw [hk]; exact HGK.out) HB4.out); have HI5 := Aside0.mk (tch_keep hT HK4.out HI4.out (by decide)); have HR05 := Aside0.mk (R_tch HR04.out hT HK4.out (by decide)); have HR15 := Aside0.mk (R_tch HR14.out hT HK4.out (by decide)); have HR25 := Aside0.mk (R_tch HR24.out hT HK4.out (by decide)); have HSZ5 := Aside0.mk (Nat.le_trans HSZ4.out hT.size); have HK5 := Aside0.mk hX; clear hX hT; obtain ⟨i1, i2⟩ := lay (Below.refl _ _) HI5.out; obtain ⟨k1, k2⟩ := lay (Below.refl _ _) HK5.out)
      clear i1 i2 k1 k2
      go_at_call 49
      refine (impl_number w0 _ HGL.out HB5.out w1.heap.size w.heap.size 1 11 HGF.out (false) (strAt ss 1) HF5.out (HS5.out.1 1 (by rw [HSL.out]; decide)) (HS5.out.2 1)).mono ?_
      rintro e w6 ⟨va, rfl, hva, hF, hT⟩
      obtain ⟨pf, hf1, _⟩ := HF5.out
      have HF6 := Aside0.mk hF; have HT6 := Aside0.mk (tch_new HT5.out hT HGFw.out); have HB6 := Aside0.mk (hT.below w0 (fun k hk => by rw [hk]; exact HGF.out) HB5.out); have HS6 := Aside0.mk (HS5.out.tch hT HBF.out); have HSZ6 := Aside0.mk (Nat.le_trans HSZ5.out hT.size); have HI6 := Aside0.mk (tch_keep hT hf1 HI5.out (by decide)); have HK6 := Aside0.mk (tch_keep hT hf1 HK5.out (by decide)); have HR06 := Aside0.mk (R_tch HR05.out hT hf1 (by decide)); have HR16 := Aside0.mk (R_tch HR15.out hT hf1 (by decide)); have HR26 := Aside0.mk (R_tch HR25.out hT hf1 (by decide)); clear hF hT hf1
      have Hva := Aside0.mk hva; clear hva
      obtain ⟨i1, i2⟩ := lay (Below.refl _ _) HI6.out
      obtain ⟨k1, k2⟩ := lay (Below.refl _ _) HK6.out
      go_wp2_with fail
      clear i1 i2 k1 k2
      go_at_call 50
      refine (impl_ftags w0 _ HB6.out w1.heap.size w.heap.size 2 10 HGF.out (false || !isNum (bytesOf (strAt ss 1))) (strAt ss 2) HF6.out (HS6.out.1 2 (by rw [HSL.out]; decide)) (HS6.out.2 2)).mono ?_
      rintro e w7 ⟨vb, rfl, hvb, hF, hT⟩
      obtain ⟨pf, hf1, _⟩ := HF6.out
      have HF7 := Aside0.mk hF; have HT7 := Aside0.mk (tch_new HT6.out hT HGFw.out); have HB7 := Aside0.mk (hT.below w0 (fun k hk => by rw [hk]; exact HGF.out) HB6.out); have HS7 := Aside0.mk (HS6.out.tch hT HBF.out); have HSZ7 := Aside0.mk (Nat.le_trans HSZ6.out hT.size); have HI7 := Aside0.mk (tch_keep hT hf1 HI6.out (by decide)); have HK7 := Aside0.mk (tch_keep hT hf1 HK6.out (by decide)); have HR07 := Aside0.mk (R_tch HR06.out hT hf1 (by decide)); have HR17 := Aside0.mk (R_tch HR16.out hT hf1 (by decide)); have HR27 := Aside0.mk (R_tch HR26.out hT hf1 (by decide)); clear hF hT hf1
      have Hvb := Aside0.mk hvb; clear hvb
      obtain ⟨i1, i2⟩ := lay (Below.refl _ _) HI7.out
      obtain ⟨k1, k2⟩ := lay (Below.refl _ _) HK7.out
      go_wp2_with fail
      clear i1 i2 k1 k2
      go_at_call 51
      refine (impl_fplace w0 _ HGL.out HB7.out w1.heap.size w.heap.size 3 5 HGF.out HBF.out ((false || !isNum (bytesOf (strAt ss 1))) || !tagOk (bytesOf (strAt ss 2))) ss HF7.out HS7.out (by rw [HSL.out]; decide)).mono ?_
      rintro e w8 ⟨pa, rfl, hpa, hF, hT⟩
      obtain ⟨pf, hf1, _⟩ := HF7.out
      have HF8 := Aside0.mk hF; have HT8 := Aside0.mk (tch_new HT7.out hT HGFw.out); have HB8 := Aside0.mk (hT.below w0 (fun k hk => by rw [hk]; exact HGF.out) HB7.out); have HS8 := Aside0.mk (HS7.out.tch hT HBF.out); have HSZ8 := Aside0.mk (Nat.le_trans HSZ7.out hT.size); have HI8 := Aside0.mk (tch_keep hT hf1 HI7.out (by decide)); have HK8 := Aside0.mk (tch_keep hT hf1 HK7.out (by decide)); have HR08 := Aside0.mk (R_tch HR07.out hT hf1 (by decide)); have HR18 := Aside0.mk (R_tch HR17.out hT hf1 (by decide)); have HR28 := Aside0.mk (R_tch HR27.out hT hf1 (by decide)); clear hF hT hf1
      have Hpa := Aside0.mk hpa; clear hpa
      obtain ⟨i1, i2⟩ := lay (Below.refl _ _) HI8.out
      obtain ⟨k1, k2⟩ := lay (Below.refl _ _) HK8.out
      go_wp2_with fail
      clear i1 i2 k1 k2
      go_at_call 51
      refine (impl_fplace w0 _ HGL.out HB8.out w1.heap.size w.heap.size 8 0 HGF.out HBF.out (((false || !isNum (bytesOf (strAt ss 1))) || !tagOk (bytesOf (strAt ss 2))) || !five (wordsOf ss) 3) ss HF8.out HS8.out (by rw [HSL.out]; decide)).mono ?_
      rintro e w9 ⟨pb, rfl, hpb, hF, hT⟩
      obtain ⟨pf, hf1, _⟩ := HF8.out
      have HF9 := Aside0.mk hF; have HT9 := Aside0.mk (tch_new HT8.out hT HGFw.out); have HB9 := Aside0.mk (hT.below w0 (fun k hk => by rw [hk]; exact HGF.out) HB8.out); have HS9 := Aside0.mk (HS8.out.tch hT HBF.out); have HSZ9 := Aside0.mk (Nat.le_trans HSZ8.out hT.size); have HI9 := Aside0.mk (tch_keep hT hf1 HI8.out (by decide)); have HK9 := Aside0.mk (tch_keep hT hf1 HK8.out (by decide)); have HR09 := Aside0.mk (R_tch HR08.out hT hf1 (by decide)); have HR19 := Aside0.mk (R_tch HR18.out hT hf1 (by decide)); have HR29 := Aside0.mk (R_tch HR28.out hT hf1 (by decide)); clear hF hT hf1
      have Hpb := Aside0.mk hpb; clear hpb
      obtain ⟨ok, hok⟩ : ∃ ok : Bool, ok = (isNum (fs.getD 1 []) && tagOk (fs.getD 2 []) && five fs 3 && five fs 8) := ⟨_, rfl⟩
      obtain ⟨y, hy⟩ : ∃ y, y = (⟨va, vb, pa, pb⟩ : Req) := ⟨_, rfl⟩
      have HYV := Aside0.mk (show ok = true → y = reqOf fs from fun h => by
        rw [hok] at h
        simp only [Bool.and_eq_true] at h
        obtain ⟨⟨⟨hq1, hq2⟩, hq3⟩, hq4⟩ := h
        have h1 : isNum (bytesOf (strAt ss 1)) = true := by rw [HAT.out 1]; exact hq1
        have h2 : tagOk (bytesOf (strAt ss 2)) = true := by rw [HAT.out 2]; exact hq2
        have h3 : five (wordsOf ss) 3 = true := by rw [HWS.out]; exact hq3
        have h4 : five (wordsOf ss) 8 = true := by rw [HWS.out]; exact hq4
        rw [hy, Hva.out h1, Hvb.out h2, Hpa.out h3, Hpb.out h4, HAT.out 1, HAT.out 2, HWS.out]; rfl)
      have hfr : ((((false || !isNum (bytesOf (strAt ss 1))) || !tagOk (bytesOf (strAt ss 2))) || !five (wordsOf ss) 3) || !five (wordsOf ss) 8) = !ok := by rw [hok, HAT.out 1, HAT.out 2, HWS.out]; cases isNum (fs.getD 1 []) <;> cases tagOk (fs.getD 2 []) <;> cases five fs 3 <;> cases five fs 8 <;> rfl
      rw [form2 fs, ← hok] at HLW
      have HF9b := HF9; rw [hfr] at HF9b
      obtain ⟨pf, hfb, _⟩ := HF9b.out; have HFb9 := Aside0.mk hfb; clear hfb
      obtain ⟨i1, i2⟩ := lay (Below.refl _ _) HI9.out
      obtain ⟨k1, k2⟩ := lay (Below.refl _ _) HK9.out
      obtain ⟨fb1, fb2⟩ := lay (Below.refl _ _) HFb9.out
      have HGOOD := Aside0.mk (show ∀ W : World, Calls Tryz.prog 38 #[.agg #[.int .i64 va, .int .i64 vb, .int .i64 pa.x, .int .i64 pa.y, .int .i64 pa.o, .int .i64 pa.c, .int .i64 pa.h, .int .i64 pb.x, .int .i64 pb.y, .int .i64 pb.o, .int .i64 pb.c, .int .i64 pb.h]] W fun e w' => e = .returned (.bool y.good) ∧ Below W.heap.size W w' from fun W => by rw [hy]; exact impl_goodReq W ⟨va, vb, pa, pb⟩)
      go_wp2_with ((with_reducible refine gate_store (t := 48) (p := 15) rfl ?_); have hsz := HSZ9.out; have HB10 := Aside0.mk (bel_box HB9.out (.cells #[.int .i64 0, .int .i64 0, .int .i64 0, .int .i64 0, .int .i64 0, .int .i64 0, .int .i64 0, .int .i64 0, .int .i64 0, .int .i64 0, .int .i64 0, .int .i64 0] 48)); have HI10 := Aside0.mk (blk_box HI9.out (.cells #[.int .i64 0, .int .i64 0, .int .i64 0, .int .i64 0, .int .i64 0, .int .i64 0, .int .i64 0, .int .i64 0, .int .i64 0, .int .i64 0, .int .i64 0, .int .i64 0] 48)); have HK10 := Aside0.mk (blk_box HK9.out (.cells #[.int .i64 0, .int .i64 0, .int .i64 0, .int .i64 0, .int .i64 0, .int .i64 0, .int .i64 0, .int .i64 0, .int .i64 0, .int .i64 0, .int .i64 0, .int .i64 0] 48)); have HFb10 := Aside0.mk (blk_box HFb9.out (.cells #[.int .i64 0, .int .i64 0, .int .i64 0, .int .i64 0, .int .i64 0, .int .i64 0, .int .i64 0, .int .i64 0, .int .i64 0, .int .i64 0, .int .i64 0, .int .i64 0] 48)); have HR010 := Aside0.mk (Kd.R_below HR09.out (below_alloc (Below.refl _ _) (.cells #[.int .i64 0, .int .i64 0, .int .i64 0, .int .i64 0, .int .i64 0, .int .i64 0, .int .i64 0, .int .i64 0, .int .i64 0, .int .i64 0, .int .i64 0, .int .i64 0] 48))); have HR110 := Aside0.mk (Kd.R_below HR19.out (below_alloc (Below.refl _ _) (.cells #[.int .i64 0, .int .i64 0, .int .i64 0, .int .i64 0, .int .i64 0, .int .i64 0, .int .i64 0, .int .i64 0, .int .i64 0, .int .i64 0, .int .i64 0, .int .i64 0] 48))); have HR210 := Aside0.mk (Kd.R_below HR29.out (below_alloc (Below.refl _ _) (.cells #[.int .i64 0, .int .i64 0, .int .i64 0, .int .i64 0, .int .i64 0, .int .i64 0, .int .i64 0, .int .i64 0, .int .i64 0, .int .i64 0, .int .i64 0, .int .i64 0] 48))); have HSZ10 := Aside0.mk (Nat.le_trans HSZ9.out (below_alloc (Below.refl _ _) (.cells #[.int .i64 0, .int .i64 0, .int .i64 0, .int .i64 0, .int .i64 0, .int .i64 0, .int .i64 0, .int .i64 0, .int .i64 0, .int .i64 0, .int .i64 0, .int .i64 0] 48)).size); have HV10 := Aside0.mk (al_new w9 (.cells #[.int .i64 0, .int .i64 0, .int .i64 0, .int .i64 0, .int .i64 0, .int .i64 0, .int .i64 0, .int .i64 0, .int .i64 0, .int .i64 0, .int .i64 0, .int .i64 0] 48)); have HGV := Aside0.mk (Nat.le_trans HB9.out.size (Nat.le_refl w9.heap.size)); clear hsz; have HGVw := Aside0.mk (show w.heap.size ≤ w9.heap.size from HSZ9.out); have HT10 := Aside0.mk (HT9.out.trans (Tch.of_below (below_alloc (Below.refl _ _) (.cells #[.int .i64 0, .int .i64 0, .int .i64 0, .int .i64 0, .int .i64 0, .int .i64 0, .int .i64 0, .int .i64 0, .int .i64 0, .int .i64 0, .int .i64 0, .int .i64 0] 48)))); have HRN10 := Aside0.mk (R_fresh HR19.out (below_alloc (Below.refl _ _) (.cells #[.int .i64 0, .int .i64 0, .int .i64 0, .int .i64 0, .int .i64 0, .int .i64 0, .int .i64 0, .int .i64 0, .int .i64 0, .int .i64 0, .int .i64 0, .int .i64 0] 48)) (Nat.le_refl _)); refine wpList_putAll rfl rfl _ _ _ rfl (g := w9.heap.size) [.int .i64 va, .int .i64 vb, .int .i64 pa.x, .int .i64 pa.y, .int .i64 pa.o, .int .i64 pa.c, .int .i64 pa.h, .int .i64 pb.x, .int .i64 pb.y, .int .i64 pb.o, .int .i64 pb.c, .int .i64 pb.h] rfl rfl (by kernel_rfl) (List.all_eq_true.1 (show List.all [.int .i64 va, .int .i64 vb, .int .i64 pa.x, .int .i64 pa.y, .int .i64 pa.o, .int .i64 pa.c, .int .i64 pa.h, .int .i64 pb.x, .int .i64 pb.y, .int .i64 pb.o, .int .i64 pb.c, .int .i64 pb.h] Value.oneCell' = true from rfl)) HV10.out rfl ?_; intro w11 hX hT hz; clear hz; clear i1 i2 k1 k2 fb1 fb2; have HT11 := Aside0.mk (tch_new HT10.out hT HGVw.out); (try simp only [List.setIfInBounds_toArray, List.set_cons_zero, List.set_cons_succ] at hX); have HB11 := Aside0.mk (hT.below w0 (fun k hk => by rw [hk]; exact HGV.out) HB10.out); have HI11 := Aside0.mk (tch_keep hT HV10.out HI10.out (by decide)); have HK11 := Aside0.mk (tch_keep hT HV10.out HK10.out (by decide)); have HFb11 := Aside0.mk (tch_keep hT HV10.out HFb10.out (by decide)); have HR011 := Aside0.mk (R_tch HR010.out hT HV10.out (by decide)); have HR111 := Aside0.mk (R_miss HRN10.out hT); have HR211 := Aside0.mk (R_tch HR210.out hT HV10.out (by decide)); have HSZ11 := Aside0.mk (Nat.le_trans HSZ10.out hT.size); have HV11 := Aside0.mk hX; clear hX hT; obtain ⟨i1, i2⟩ := lay (Below.refl _ _) HI11.out; obtain ⟨k1, k2⟩ := lay (Below.refl _ _) HK11.out; obtain ⟨fb1, fb2⟩ := lay (Below.refl _ _) HFb11.out; obtain ⟨v1, v2⟩ := lay (Below.refl _ _) HV11.out)
      clear i1 i2 k1 k2 fb1 fb2 v1 v2
      have HVy := HV11
      have ey0 : va = y.size := (by rw [hy]); have ey1 : vb = y.tags := (by rw [hy]); have ey2 : pa.x = y.from_.x := (by rw [hy]); have ey3 : pa.y = y.from_.y := (by rw [hy]); have ey4 : pa.o = y.from_.o := (by rw [hy]); have ey5 : pa.c = y.from_.c := (by rw [hy]); have ey6 : pa.h = y.from_.h := (by rw [hy]); have ey7 : pb.x = y.to_.x := (by rw [hy]); have ey8 : pb.y = y.to_.y := (by rw [hy]); have ey9 : pb.o = y.to_.o := (by rw [hy]); have ey10 : pb.c = y.to_.c := (by rw [hy]); have ey11 : pb.h = y.to_.h := (by rw [hy])
      rw [ey0, ey1, ey2, ey3, ey4, ey5, ey6, ey7, ey8, ey9, ey10, ey11] at HVy
      clear ey0 ey1 ey2 ey3 ey4 ey5 ey6 ey7 ey8 ey9 ey10 ey11
      have HV11 := HVy
      clear hy hok hfr
      go_at_call 38
      refine Calls.mono (HGOOD.out _) ?_
      rintro e w12 ⟨rfl, hb⟩
      have HB12 := Aside0.mk (bel_call HB11.out hb); have HI12 := Aside0.mk (blk_below HI11.out hb); have HK12 := Aside0.mk (blk_below HK11.out hb); have HFb12 := Aside0.mk (blk_below HFb11.out hb); have HV12 := Aside0.mk (blk_below HV11.out hb); have HR012 := Aside0.mk (Kd.R_below HR011.out hb); have HR112 := Aside0.mk (Kd.R_below HR111.out hb); have HR212 := Aside0.mk (Kd.R_below HR211.out hb); have HSZ12 := Aside0.mk (Nat.le_trans HSZ11.out hb.size); have HT12 := Aside0.mk (HT11.out.trans (Tch.of_below hb)); clear hb
      obtain ⟨i1, i2⟩ := lay (Below.refl _ _) HI12.out
      obtain ⟨k1, k2⟩ := lay (Below.refl _ _) HK12.out
      obtain ⟨fb1, fb2⟩ := lay (Below.refl _ _) HFb12.out
      obtain ⟨v1, v2⟩ := lay (Below.refl _ _) HV12.out
      go_wp2_with fail
      clear i1 i2 k1 k2 fb1 fb2 v1 v2
      have hwa : Below w12.heap.size w12 (({ w12 with drawn := w12.drawn + 1 } : World).alloc (.cells #[.int .i64 y.size, .int .i64 y.tags, .int .i64 y.from_.x, .int .i64 y.from_.y, .int .i64 y.from_.o, .int .i64 y.from_.c, .int .i64 y.from_.h, .int .i64 y.to_.x, .int .i64 y.to_.y, .int .i64 y.to_.o, .int .i64 y.to_.c, .int .i64 y.to_.h] 48)) := bel_box (below_drew (Below.refl _ _)) (.cells #[.int .i64 y.size, .int .i64 y.tags, .int .i64 y.from_.x, .int .i64 y.from_.y, .int .i64 y.from_.o, .int .i64 y.from_.c, .int .i64 y.from_.h, .int .i64 y.to_.x, .int .i64 y.to_.y, .int .i64 y.to_.o, .int .i64 y.to_.c, .int .i64 y.to_.h] 48)
      have hlit := (Kd.R_reads' (flat_lit (d := kReq) rfl ({ w12 with drawn := w12.drawn + 1 } : World) w0.heap.size 48 [y] HB12.out.size (sl_max 1 (by decide)))).2.2
      obtain ⟨vn, w13, hrun, hR, hb2, hg2, _⟩ := Kd.flat_append_run (P := Tryz.prog) kReq rfl (w0 := w0) (W := ({ w12 with drawn := w12.drawn + 1 } : World).alloc (.cells #[.int .i64 y.size, .int .i64 y.tags, .int .i64 y.from_.x, .int .i64 y.from_.y, .int .i64 y.from_.o, .int .i64 y.from_.c, .int .i64 y.from_.h, .int .i64 y.to_.x, .int .i64 y.to_.y, .int .i64 y.to_.o, .int .i64 y.to_.c, .int .i64 y.to_.h] 48)) w0.heap.size 24 48 zQ 96 24 Tryz.underlying24 (by kernel_rfl) (by decide) (by decide) (.slice A1 x.qs.length c1) x.qs [y] (some ⟨w12.heap.size, 0, none⟩) 1 1 (Kd.R_below HR112.out hwa) hlit (bel_call HB12.out hwa) (bel_call HB12.out hwa).size (by have h := HXT.out; unfold Inst.tiny at h; show (_ + 1) * 96 ≤ _; omega)
      have HB13 := Aside0.mk hb2; have HR013 := Aside0.mk (R_apart (Kd.R_below HR012.out hwa) hg2 (own_cells (Kd.R_below HR112.out hwa)) (by decide)); have HR213 := Aside0.mk (R_apart (Kd.R_below HR212.out hwa) hg2 (own_cells (Kd.R_below HR112.out hwa)) (by decide)); have HI13 := Aside0.mk (box_apart (Kd.R_below HR112.out hwa) hg2 (blk_below HI12.out hwa) (by decide)); have HK13 := Aside0.mk (box_apart (Kd.R_below HR112.out hwa) hg2 (blk_below HK12.out hwa) (by decide)); have HFb13 := Aside0.mk (box_apart (Kd.R_below HR112.out hwa) hg2 (blk_below HFb12.out hwa) (by decide)); have HT13 := Aside0.mk ((HT12.out.trans (Tch.of_below hwa)).trans (tch_row hg2 (fun k hk => Or.inr (Or.inr (Or.inr (Or.inl hk.symm)))) hg2.size)); have HSZ13 := Aside0.mk (Nat.le_trans (Nat.le_trans HSZ12.out hwa.size) hg2.size)
      have hql : (x.qs ++ [y]).length = x.qs.length + 1 := by rw [List.length_append, List.length_singleton]
      generalize hq : x.qs ++ [y] = vs3 at hR hql
      have HQ := Aside0.mk hq; have HQL := Aside0.mk hql; clear hq hql
      obtain ⟨A3, c3, rfl⟩ := Kd.R_slice hR
      have HR113 := Aside0.mk hR; clear hR hb2 hg2 hlit hwa
      refine wp_region_app (by kernel_rfl) 95 96 97 98 99 100 101 102 103 104 0 15 27 24 48 27 48 1 gi (w9.heap.size) (.slice A1 x.qs.length c1) (.slice A3 vs3.length c3) w13 #[.slice A0 x.vs.length c0, .slice A1 x.qs.length c1, .slice A2 x.rs.length c2] #[.int .i64 y.size, .int .i64 y.tags, .int .i64 y.from_.x, .int .i64 y.from_.y, .int .i64 y.from_.o, .int .i64 y.from_.c, .int .i64 y.from_.h, .int .i64 y.to_.x, .int .i64 y.to_.y, .int .i64 y.to_.o, .int .i64 y.to_.c, .int .i64 y.to_.h] #[.slice A0 x.vs.length c0, .slice A1 x.qs.length c1, .slice A2 x.rs.length c2] ⟨rfl, rfl⟩ ⟨rfl, rfl⟩ ⟨rfl, rfl⟩ ⟨rfl, rfl⟩ ⟨rfl, rfl⟩ ⟨rfl, rfl⟩ ⟨rfl, rfl⟩ ⟨rfl, rfl⟩ ⟨rfl, rfl⟩ ⟨rfl, rfl⟩ ⟨rfl, rfl⟩ (by kernel_rfl) (by kernel_rfl) (by kernel_rfl) (by decide) (by rfl) rfl rfl (fun W => by go_simp) (fun W hW => by obtain ⟨x1, x2⟩ := lay (Below.refl _ _) hW; go_simp) (fun W hW => by obtain ⟨x1, x2⟩ := lay (Below.refl _ _) hW; go_simp) (fun W => by go_simp) HI12.out HV12.out hrun (by kernel_rfl) rfl rfl HI13.out (show 1 < 3 by decide) ?_
      clear hrun
      intro A w14 hA hX hT
      rw [hA]
      clear hA A
      have HT14 := Aside0.mk (HT13.out.trans (hT.mono fun k hk => Or.inl hk))
      (try simp only [List.setIfInBounds_toArray, List.set_cons_zero, List.set_cons_succ] at hX)
      have HB14 := Aside0.mk (hT.below w0 (fun k hk => by rw [hk]; exact HGI.out) HB13.out); have HK14 := Aside0.mk (tch_keep hT HI13.out HK13.out (by decide)); have HFb14 := Aside0.mk (tch_keep hT HI13.out HFb13.out (by decide)); have HR014 := Aside0.mk (R_tch HR013.out hT HI13.out (by decide)); have HR114 := Aside0.mk (R_tch HR113.out hT HI13.out (by decide)); have HR214 := Aside0.mk (R_tch HR213.out hT HI13.out (by decide)); have HSZ14 := Aside0.mk (Nat.le_trans HSZ13.out hT.size); have HI14 := Aside0.mk hX; clear hX hT
      have HKN := Aside0.mk (show kindNo ⟨x.vs, x.qs ++ [y], x.rs⟩ = 1 by have h := HO.out; unfold kindNo; show (if 0 < x.rs.length then (2 : Int) else if 0 < (x.qs ++ [y]).length then 1 else 0) = 1; rw [if_neg (by omega), if_pos (by simp)])
      have hxt := HXT.out
      unfold Inst.tiny at hxt
      by_cases hm : x.qs.length = 1000
      · skip
        have m0 : decide ((1000 : Int) < (vs3.length : Int)) = true := decide_eq_true (by have := HQL.out; omega)
        have m1 : decide (1000 < vs3.length) = true := decide_eq_true (by have := HQL.out; omega)
        have HM := Aside0.mk hm; clear hm hxt
        cases ok with
        | false =>
          have HV := Aside0.mk (show lineW x fs 2 = (6, x) by rw [HLW.out]; rfl)
          obtain ⟨i1, i2⟩ := lay (Below.refl _ _) HI14.out
          obtain ⟨k1, k2⟩ := lay (Below.refl _ _) HK14.out
          obtain ⟨fb1, fb2⟩ := lay (Below.refl _ _) HFb14.out
          go_wp2
          go_ret
          exact ⟨Or.inr ⟨by rw [HV.out]; show (6 : Int) ≠ 0; decide, by rw [HV.out]; rfl⟩, HT14.out⟩
        | true =>
          have HVA := Aside0.mk (show lineW x fs 2 = addReq x y by rw [HLW.out, HYV.out rfl]; rfl)
          cases hgd : y.good with
          | false =>
            have HV := Aside0.mk (show lineW x fs 2 = (7, x) by rw [HVA.out]; unfold addReq; rw [hgd]; rfl)
            obtain ⟨i1, i2⟩ := lay (Below.refl _ _) HI14.out
            obtain ⟨k1, k2⟩ := lay (Below.refl _ _) HK14.out
            obtain ⟨fb1, fb2⟩ := lay (Below.refl _ _) HFb14.out
            go_wp2
            go_ret
            exact ⟨Or.inr ⟨by rw [HV.out]; show (7 : Int) ≠ 0; decide, by rw [HV.out]; rfl⟩, HT14.out⟩
          | true =>
            have HV := Aside0.mk (show lineW x fs 2 = (9, x) by rw [HVA.out]; unfold addReq; rw [hgd, if_neg (by decide), if_pos HM.out])
            obtain ⟨i1, i2⟩ := lay (Below.refl _ _) HI14.out
            obtain ⟨k1, k2⟩ := lay (Below.refl _ _) HK14.out
            obtain ⟨fb1, fb2⟩ := lay (Below.refl _ _) HFb14.out
            go_wp2
            go_ret
            exact ⟨Or.inr ⟨by rw [HV.out]; show (9 : Int) ≠ 0; decide, by rw [HV.out]; rfl⟩, HT14.out⟩
      · skip
        have m0 : decide ((1000 : Int) < (vs3.length : Int)) = false := decide_eq_false (by have := HQL.out; omega)
        have m1 : decide (1000 < vs3.length) = false := decide_eq_false (by have := HQL.out; omega)
        have HM := Aside0.mk hm; clear hm hxt
        cases ok with
        | false =>
          have HV := Aside0.mk (show lineW x fs 2 = (6, x) by rw [HLW.out]; rfl)
          obtain ⟨i1, i2⟩ := lay (Below.refl _ _) HI14.out
          obtain ⟨k1, k2⟩ := lay (Below.refl _ _) HK14.out
          obtain ⟨fb1, fb2⟩ := lay (Below.refl _ _) HFb14.out
          go_wp2
          go_ret
          exact ⟨Or.inr ⟨by rw [HV.out]; show (6 : Int) ≠ 0; decide, by rw [HV.out]; rfl⟩, HT14.out⟩
        | true =>
          have HVA := Aside0.mk (show lineW x fs 2 = addReq x y by rw [HLW.out, HYV.out rfl]; rfl)
          cases hgd : y.good with
          | false =>
            have HV := Aside0.mk (show lineW x fs 2 = (7, x) by rw [HVA.out]; unfold addReq; rw [hgd]; rfl)
            obtain ⟨i1, i2⟩ := lay (Below.refl _ _) HI14.out
            obtain ⟨k1, k2⟩ := lay (Below.refl _ _) HK14.out
            obtain ⟨fb1, fb2⟩ := lay (Below.refl _ _) HFb14.out
            go_wp2
            go_ret
            exact ⟨Or.inr ⟨by rw [HV.out]; show (7 : Int) ≠ 0; decide, by rw [HV.out]; rfl⟩, HT14.out⟩
          | true =>
            have HV := Aside0.mk (show lineW x fs 2 = (0, ⟨x.vs, x.qs ++ [y], x.rs⟩) by rw [HVA.out]; unfold addReq; rw [hgd, if_neg (by decide), if_neg HM.out])
            obtain ⟨i1, i2⟩ := lay (Below.refl _ _) HI14.out
            obtain ⟨k1, k2⟩ := lay (Below.refl _ _) HK14.out
            obtain ⟨fb1, fb2⟩ := lay (Below.refl _ _) HFb14.out
            go_wp2
            go_ret
            exact ⟨Or.inl ⟨by rw [HV.out], rfl, by rw [HV.out, HKN.out]; exact HK14.out, _, _, _, HI14.out, by rw [HV.out]; exact HR014.out, by rw [HV.out]; exact (by show kReq.R _ _ _ _ _ (x.qs ++ [y]); rw [HQ.out]; exact HR114.out), by rw [HV.out]; exact HR214.out⟩, HT14.out⟩
end
end Go.Proofs.YtbccaabaplbmhaaGreatDoor.L1
