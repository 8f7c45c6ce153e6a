/- The program's fields of a line: tags. The program's fields of a line: a place. A line, as the reference reads it, by its kind. -/
import Derived.Test.YtogjkkbhmanbmaaGreatDoorQP7
import Derived.Deep.Cut
import Derived.Deep.CutRange
namespace Go.Proofs.YtogjkkbhmanbmaaGreatDoor.L1
open Go.RowKit Go.Proofs.YtogjkkbhmanbmaaGreatDoorW.PrintWords Go.Proofs.YtogjkkbhmanbmaaGreatDoor.B
set_option linter.unusedVariables false
set_option linter.unusedSimpArgs false
attribute [local go_sem] mk_cell mk_frozen
theorem bytes_at (s : ByteArray) (j : Nat) (hj : j < s.size) : (((s.data.toList.getD j 0).toNat : Nat) : Int) = (bytesOf s).getD j 0 := by
  have h : j < s.data.toList.length := by rw [← Lib.size_eq]; exact hj
  unfold bytesOf ofU
  rw [List.getD_eq_getElem?_getD, List.getD_eq_getElem?_getD, List.getElem?_map, List.getElem?_eq_getElem h]
  rfl
theorem str_eq (s : ByteArray) (ws : List UInt8) : (s.toList == ws) = decide (bytesOf s = ofU ws) := by
  rw [ByteArray.toList_eq]
  by_cases h : s.data.toList = ws
  · rw [decide_eq_true (show bytesOf s = ofU ws from congrArg ofU h), h]; exact beq_self_eq_true _
  · rw [decide_eq_false (show ¬ bytesOf s = ofU ws from fun e => h (ofU_inj e))]; exact beq_false_of_ne h
set_option maxRecDepth 100000 in
set_option maxHeartbeats 8000000 in
theorem impl_tags (w0 w : World) (hB : Below w0.heap.size w0 w) (g B i m : Nat) (hg : w0.heap.size ≤ g) (frm : Bool) (s : ByteArray) (hF : FAt w g B i (m + 1) frm) (hs : w.cell? ⟨B, i, none⟩ = some (.string s)) (hz : s.size ≤ 1048576) :
    Calls Tryz.prog 38 #[.pointer (some ⟨g, 0, none⟩)] w fun e w' => ∃ v : Int, e = .returned (.int .i64 v) ∧ (tagOk (bytesOf s) = true → v = tagSum (bytesOf s) (bytesOf s).length) ∧ FAt w' g B (i + 1) m (frm || !tagOk (bytesOf s)) ∧ Tch (fun k => k = g) w w' := by
  have HB := Aside0.mk hB; have HGE := Aside0.mk hg; have HF := Aside0.mk hF; have HS := Aside0.mk hs; have HZ := Aside0.mk hz
  clear hB hg hF hs hz
  go_enter Tryz.func38, Tryz.ntmps38
  go_wp2_with fail
  go_at_call 36
  refine (impl_next _ g B i m frm s HF.out HS.out).mono ?_
  rintro e w1 ⟨rfl, hF, hT⟩
  have HF1 := Aside0.mk hF; have HT1 := Aside0.mk hT; clear hF hT
  have h45 := str_eq s [45]
  by_cases hd : bytesOf s = [45]
  · have HV := Aside0.mk (show tagOk (bytesOf s) = true ∧ tagSum (bytesOf s) (bytesOf s).length = 0 by rw [hd]; exact ⟨rfl, rfl⟩)
    rw [decide_eq_true (show bytesOf s = ofU [45] from hd)] at h45
    clear hd
    go_wp2
    go_ret
    exact ⟨_, rfl, fun _ => HV.out.2.symm, by rw [HV.out.1]; simpa using HF1.out, HT1.out⟩
  have HNE := Aside0.mk hd
  rw [decide_eq_false (show ¬ bytesOf s = ofU [45] from hd)] at h45
  clear hd
  have hcv := Lib.run_convert_string_bytes w1 9 22 5 s Tryz.underlying9 Tryz.underlying22 Tryz.underlying5
  have HBW := Aside0.mk (Lib.bytesWorld_below w1 5 s)
  have HC := Aside0.mk (fun j hj => (Lib.bytesWorld_cell w1 5 s j hj).trans (by rw [bytes_at s j hj]))
  generalize Lib.bytesWorld w1 5 s = w2 at hcv HBW HC
  have HL := Aside0.mk (bytesOf_len s)
  have h0 := str_eq s []
  have HF2 := Aside0.mk (HF1.out.below HBW.out); have HT2 := Aside0.mk (HT1.out.trans (Tch.of_below HBW.out))
  obtain ⟨f, hf⟩ : ∃ f, bytesOf s = f := ⟨_, rfl⟩
  have hz := HZ.out
  have HH0 := Aside0.mk h0; clear h0
  go_wp2_with fail
  clear hcv h45
  go_loopg [4, 6, 14] (s.size + 1) (fun q v4 v6 v14 wr => ∃ k : Nat, q = s.size + 1 - k ∧ k ≤ s.size ∧ v4 = .int .i64 (tagSum (bytesOf s) k) ∧ v14 = .int .i64 k ∧ Aside0 (allI k (tagStep (bytesOf s)) = true) ∧ wr = w2)
  case atStart => exact ⟨0, by omega, by omega, rfl, rfl, ⟨rfl⟩, rfl⟩
  case round =>
    obtain ⟨k, rfl, hk, rfl, rfl, HG, rfl⟩ := hrel
    by_cases hlt : k < s.size
    · have y0 := HC.out k hlt
      have HS2 := Aside0.mk (show allI (k + 1) (tagStep (bytesOf s)) = (allI k (tagStep (bytesOf s)) && tagStep (bytesOf s) k) from allI_succ k _)
      have HKL := Aside0.mk (show k < (bytesOf s).length by rw [HL.out]; exact hlt)
      have hlu : ((k : Nat) : Int) < (s.size : Int) := by omega
      have HTN := Aside0.mk (fun hy => tag_next HG.out hy)
      have HU := Aside0.mk (show tagSum (bytesOf s) (k + 1) = tagSum (bytesOf s) k + tagBit ((bytesOf s).getD k 0) from rfl)
      have HBAD := Aside0.mk (fun h => tagOk_bad HNE.out HKL.out h)
      have HST := Aside0.mk (show tagStep (bytesOf s) k = (inB ((bytesOf s).getD k 0) 97 112 && (decide (k = 0) || decide ((bytesOf s).getD (k - 1) 0 < (bytesOf s).getD k 0))) from rfl)
      generalize (bytesOf s).getD k 0 = y at y0 HTN HU HST
      generalize tagSum (bytesOf s) k = S at HTN HU ⊢
      obtain ⟨q, j1, j2⟩ := HF2.out
      obtain ⟨x1, x2⟩ := lay (Below.refl _ _) j1
      clear j1 j2
      rcases Int.lt_or_le y 97 with ha | ha
      · have HV := Aside0.mk (HBAD.out (by rw [HST.out]; unfold inB; rw [decide_eq_false (show ¬ 97 ≤ y by omega)]; rfl))
        have a0 : decide (y < 97) = true := decide_eq_true ha
        clear ha
        go_wp2
        go_ret
        exact ⟨_, rfl, fun h => absurd (h.symm.trans HV.out) (by decide), by rw [HV.out]; simpa using HF2.out.set true, HT2.out.trans (Tch.set rfl)⟩
      rcases Int.lt_or_le 112 y with hb | hb
      · have HV := Aside0.mk (HBAD.out (by rw [HST.out]; unfold inB; rw [decide_eq_false (show ¬ y ≤ 112 by omega)]; simp))
        have a0 : decide (y < 97) = false := decide_eq_false (by omega)
        have a1 : decide (113 ≤ y) = true := decide_eq_true (by omega)
        clear ha hb
        go_wp2
        go_ret
        exact ⟨_, rfl, fun h => absurd (h.symm.trans HV.out) (by decide), by rw [HV.out]; simpa using HF2.out.set true, HT2.out.trans (Tch.set rfl)⟩
      obtain ⟨s0, s1, s2⟩ := HTN.out ⟨ha, hb⟩
      have hcs : y = 97 ∨ y = 98 ∨ y = 99 ∨ y = 100 ∨ y = 101 ∨ y = 102 ∨ y = 103 ∨ y = 104 ∨ y = 105 ∨ y = 106 ∨ y = 107 ∨ y = 108 ∨ y = 109 ∨ y = 110 ∨ y = 111 ∨ y = 112 := by omega
      cases hstep : tagStep (bytesOf s) k with
      | false =>
        have HV := Aside0.mk (HBAD.out hstep)
        have t0 := s2 hstep
        clear s1 s2 hstep HST HTN
        rcases hcs with rfl | rfl | rfl | rfl | rfl | rfl | rfl | rfl | rfl | rfl | rfl | rfl | rfl | rfl | rfl | rfl
        · have a3 : decide ((1 : Int) ≤ S) = true := decide_eq_true t0
          clear t0 s0 ha hb
          go_wp2
          go_ret
          exact ⟨_, rfl, fun h => absurd (h.symm.trans HV.out) (by decide), by rw [HV.out]; simpa using HF2.out.set true, HT2.out.trans (Tch.set rfl)⟩
        · have a3 : decide ((2 : Int) ≤ S) = true := decide_eq_true t0
          clear t0 s0 ha hb
          go_wp2
          go_ret
          exact ⟨_, rfl, fun h => absurd (h.symm.trans HV.out) (by decide), by rw [HV.out]; simpa using HF2.out.set true, HT2.out.trans (Tch.set rfl)⟩
        · have a3 : decide ((4 : Int) ≤ S) = true := decide_eq_true t0
          clear t0 s0 ha hb
          go_wp2
          go_ret
          exact ⟨_, rfl, fun h => absurd (h.symm.trans HV.out) (by decide), by rw [HV.out]; simpa using HF2.out.set true, HT2.out.trans (Tch.set rfl)⟩
        · have a3 : decide ((8 : Int) ≤ S) = true := decide_eq_true t0
          clear t0 s0 ha hb
          go_wp2
          go_ret
          exact ⟨_, rfl, fun h => absurd (h.symm.trans HV.out) (by decide), by rw [HV.out]; simpa using HF2.out.set true, HT2.out.trans (Tch.set rfl)⟩
        · have a3 : decide ((16 : Int) ≤ S) = true := decide_eq_true t0
          clear t0 s0 ha hb
          go_wp2
          go_ret
          exact ⟨_, rfl, fun h => absurd (h.symm.trans HV.out) (by decide), by rw [HV.out]; simpa using HF2.out.set true, HT2.out.trans (Tch.set rfl)⟩
        · have a3 : decide ((32 : Int) ≤ S) = true := decide_eq_true t0
          clear t0 s0 ha hb
          go_wp2
          go_ret
          exact ⟨_, rfl, fun h => absurd (h.symm.trans HV.out) (by decide), by rw [HV.out]; simpa using HF2.out.set true, HT2.out.trans (Tch.set rfl)⟩
        · have a3 : decide ((64 : Int) ≤ S) = true := decide_eq_true t0
          clear t0 s0 ha hb
          go_wp2
          go_ret
          exact ⟨_, rfl, fun h => absurd (h.symm.trans HV.out) (by decide), by rw [HV.out]; simpa using HF2.out.set true, HT2.out.trans (Tch.set rfl)⟩
        · have a3 : decide ((128 : Int) ≤ S) = true := decide_eq_true t0
          clear t0 s0 ha hb
          go_wp2
          go_ret
          exact ⟨_, rfl, fun h => absurd (h.symm.trans HV.out) (by decide), by rw [HV.out]; simpa using HF2.out.set true, HT2.out.trans (Tch.set rfl)⟩
        · have a3 : decide ((256 : Int) ≤ S) = true := decide_eq_true t0
          clear t0 s0 ha hb
          go_wp2
          go_ret
          exact ⟨_, rfl, fun h => absurd (h.symm.trans HV.out) (by decide), by rw [HV.out]; simpa using HF2.out.set true, HT2.out.trans (Tch.set rfl)⟩
        · have a3 : decide ((512 : Int) ≤ S) = true := decide_eq_true t0
          clear t0 s0 ha hb
          go_wp2
          go_ret
          exact ⟨_, rfl, fun h => absurd (h.symm.trans HV.out) (by decide), by rw [HV.out]; simpa using HF2.out.set true, HT2.out.trans (Tch.set rfl)⟩
        · have a3 : decide ((1024 : Int) ≤ S) = true := decide_eq_true t0
          clear t0 s0 ha hb
          go_wp2
          go_ret
          exact ⟨_, rfl, fun h => absurd (h.symm.trans HV.out) (by decide), by rw [HV.out]; simpa using HF2.out.set true, HT2.out.trans (Tch.set rfl)⟩
        · have a3 : decide ((2048 : Int) ≤ S) = true := decide_eq_true t0
          clear t0 s0 ha hb
          go_wp2
          go_ret
          exact ⟨_, rfl, fun h => absurd (h.symm.trans HV.out) (by decide), by rw [HV.out]; simpa using HF2.out.set true, HT2.out.trans (Tch.set rfl)⟩
        · have a3 : decide ((4096 : Int) ≤ S) = true := decide_eq_true t0
          clear t0 s0 ha hb
          go_wp2
          go_ret
          exact ⟨_, rfl, fun h => absurd (h.symm.trans HV.out) (by decide), by rw [HV.out]; simpa using HF2.out.set true, HT2.out.trans (Tch.set rfl)⟩
        · have a3 : decide ((8192 : Int) ≤ S) = true := decide_eq_true t0
          clear t0 s0 ha hb
          go_wp2
          go_ret
          exact ⟨_, rfl, fun h => absurd (h.symm.trans HV.out) (by decide), by rw [HV.out]; simpa using HF2.out.set true, HT2.out.trans (Tch.set rfl)⟩
        · have a3 : decide ((16384 : Int) ≤ S) = true := decide_eq_true t0
          clear t0 s0 ha hb
          go_wp2
          go_ret
          exact ⟨_, rfl, fun h => absurd (h.symm.trans HV.out) (by decide), by rw [HV.out]; simpa using HF2.out.set true, HT2.out.trans (Tch.set rfl)⟩
        · have a3 : decide ((32768 : Int) ≤ S) = true := decide_eq_true t0
          clear t0 s0 ha hb
          go_wp2
          go_ret
          exact ⟨_, rfl, fun h => absurd (h.symm.trans HV.out) (by decide), by rw [HV.out]; simpa using HF2.out.set true, HT2.out.trans (Tch.set rfl)⟩
      | true =>
        have t0 := s1 hstep
        have HY := Aside0.mk hstep
        clear s1 s2 hstep HST HTN
        rcases hcs with rfl | rfl | rfl | rfl | rfl | rfl | rfl | rfl | rfl | rfl | rfl | rfl | rfl | rfl | rfl | rfl
        · have a3 : decide ((1 : Int) ≤ S) = false := decide_eq_false (Int.not_le.2 t0)
          have a4 : bits .or .i64 S 1 = S + 1 := or_add 0 S (by decide) s0 t0
          have HQ := Aside0.mk (show tagSum (bytesOf s) (k + 1) = S + 1 from HU.out)
          clear t0 s0 ha hb
          go_wp2
          go_roundg (s.size + 1 - (k + 1))
          case measure => omega
          case rel => exact ⟨k + 1, rfl, hlt, by rw [HQ.out], by go_num, ⟨by rw [HS2.out, HG.out, HY.out]; rfl⟩, rfl⟩
        · have a3 : decide ((2 : Int) ≤ S) = false := decide_eq_false (Int.not_le.2 t0)
          have a4 : bits .or .i64 S 2 = S + 2 := or_add 1 S (by decide) s0 t0
          have HQ := Aside0.mk (show tagSum (bytesOf s) (k + 1) = S + 2 from HU.out)
          clear t0 s0 ha hb
          go_wp2
          go_roundg (s.size + 1 - (k + 1))
          case measure => omega
          case rel => exact ⟨k + 1, rfl, hlt, by rw [HQ.out], by go_num, ⟨by rw [HS2.out, HG.out, HY.out]; rfl⟩, rfl⟩
        · have a3 : decide ((4 : Int) ≤ S) = false := decide_eq_false (Int.not_le.2 t0)
          have a4 : bits .or .i64 S 4 = S + 4 := or_add 2 S (by decide) s0 t0
          have HQ := Aside0.mk (show tagSum (bytesOf s) (k + 1) = S + 4 from HU.out)
          clear t0 s0 ha hb
          go_wp2
          go_roundg (s.size + 1 - (k + 1))
          case measure => omega
          case rel => exact ⟨k + 1, rfl, hlt, by rw [HQ.out], by go_num, ⟨by rw [HS2.out, HG.out, HY.out]; rfl⟩, rfl⟩
        · have a3 : decide ((8 : Int) ≤ S) = false := decide_eq_false (Int.not_le.2 t0)
          have a4 : bits .or .i64 S 8 = S + 8 := or_add 3 S (by decide) s0 t0
          have HQ := Aside0.mk (show tagSum (bytesOf s) (k + 1) = S + 8 from HU.out)
          clear t0 s0 ha hb
          go_wp2
          go_roundg (s.size + 1 - (k + 1))
          case measure => omega
          case rel => exact ⟨k + 1, rfl, hlt, by rw [HQ.out], by go_num, ⟨by rw [HS2.out, HG.out, HY.out]; rfl⟩, rfl⟩
        · have a3 : decide ((16 : Int) ≤ S) = false := decide_eq_false (Int.not_le.2 t0)
          have a4 : bits .or .i64 S 16 = S + 16 := or_add 4 S (by decide) s0 t0
          have HQ := Aside0.mk (show tagSum (bytesOf s) (k + 1) = S + 16 from HU.out)
          clear t0 s0 ha hb
          go_wp2
          go_roundg (s.size + 1 - (k + 1))
          case measure => omega
          case rel => exact ⟨k + 1, rfl, hlt, by rw [HQ.out], by go_num, ⟨by rw [HS2.out, HG.out, HY.out]; rfl⟩, rfl⟩
        · have a3 : decide ((32 : Int) ≤ S) = false := decide_eq_false (Int.not_le.2 t0)
          have a4 : bits .or .i64 S 32 = S + 32 := or_add 5 S (by decide) s0 t0
          have HQ := Aside0.mk (show tagSum (bytesOf s) (k + 1) = S + 32 from HU.out)
          clear t0 s0 ha hb
          go_wp2
          go_roundg (s.size + 1 - (k + 1))
          case measure => omega
          case rel => exact ⟨k + 1, rfl, hlt, by rw [HQ.out], by go_num, ⟨by rw [HS2.out, HG.out, HY.out]; rfl⟩, rfl⟩
        · have a3 : decide ((64 : Int) ≤ S) = false := decide_eq_false (Int.not_le.2 t0)
          have a4 : bits .or .i64 S 64 = S + 64 := or_add 6 S (by decide) s0 t0
          have HQ := Aside0.mk (show tagSum (bytesOf s) (k + 1) = S + 64 from HU.out)
          clear t0 s0 ha hb
          go_wp2
          go_roundg (s.size + 1 - (k + 1))
          case measure => omega
          case rel => exact ⟨k + 1, rfl, hlt, by rw [HQ.out], by go_num, ⟨by rw [HS2.out, HG.out, HY.out]; rfl⟩, rfl⟩
        · have a3 : decide ((128 : Int) ≤ S) = false := decide_eq_false (Int.not_le.2 t0)
          have a4 : bits .or .i64 S 128 = S + 128 := or_add 7 S (by decide) s0 t0
          have HQ := Aside0.mk (show tagSum (bytesOf s) (k + 1) = S + 128 from HU.out)
          clear t0 s0 ha hb
          go_wp2
          go_roundg (s.size + 1 - (k + 1))
          case measure => omega
          case rel => exact ⟨k + 1, rfl, hlt, by rw [HQ.out], by go_num, ⟨by rw [HS2.out, HG.out, HY.out]; rfl⟩, rfl⟩
        · have a3 : decide ((256 : Int) ≤ S) = false := decide_eq_false (Int.not_le.2 t0)
          have a4 : bits .or .i64 S 256 = S + 256 := or_add 8 S (by decide) s0 t0
          have HQ := Aside0.mk (show tagSum (bytesOf s) (k + 1) = S + 256 from HU.out)
          clear t0 s0 ha hb
          go_wp2
          go_roundg (s.size + 1 - (k + 1))
          case measure => omega
          case rel => exact ⟨k + 1, rfl, hlt, by rw [HQ.out], by go_num, ⟨by rw [HS2.out, HG.out, HY.out]; rfl⟩, rfl⟩
        · have a3 : decide ((512 : Int) ≤ S) = false := decide_eq_false (Int.not_le.2 t0)
          have a4 : bits .or .i64 S 512 = S + 512 := or_add 9 S (by decide) s0 t0
          have HQ := Aside0.mk (show tagSum (bytesOf s) (k + 1) = S + 512 from HU.out)
          clear t0 s0 ha hb
          go_wp2
          go_roundg (s.size + 1 - (k + 1))
          case measure => omega
          case rel => exact ⟨k + 1, rfl, hlt, by rw [HQ.out], by go_num, ⟨by rw [HS2.out, HG.out, HY.out]; rfl⟩, rfl⟩
        · have a3 : decide ((1024 : Int) ≤ S) = false := decide_eq_false (Int.not_le.2 t0)
          have a4 : bits .or .i64 S 1024 = S + 1024 := or_add 10 S (by decide) s0 t0
          have HQ := Aside0.mk (show tagSum (bytesOf s) (k + 1) = S + 1024 from HU.out)
          clear t0 s0 ha hb
          go_wp2
          go_roundg (s.size + 1 - (k + 1))
          case measure => omega
          case rel => exact ⟨k + 1, rfl, hlt, by rw [HQ.out], by go_num, ⟨by rw [HS2.out, HG.out, HY.out]; rfl⟩, rfl⟩
        · have a3 : decide ((2048 : Int) ≤ S) = false := decide_eq_false (Int.not_le.2 t0)
          have a4 : bits .or .i64 S 2048 = S + 2048 := or_add 11 S (by decide) s0 t0
          have HQ := Aside0.mk (show tagSum (bytesOf s) (k + 1) = S + 2048 from HU.out)
          clear t0 s0 ha hb
          go_wp2
          go_roundg (s.size + 1 - (k + 1))
          case measure => omega
          case rel => exact ⟨k + 1, rfl, hlt, by rw [HQ.out], by go_num, ⟨by rw [HS2.out, HG.out, HY.out]; rfl⟩, rfl⟩
        · have a3 : decide ((4096 : Int) ≤ S) = false := decide_eq_false (Int.not_le.2 t0)
          have a4 : bits .or .i64 S 4096 = S + 4096 := or_add 12 S (by decide) s0 t0
          have HQ := Aside0.mk (show tagSum (bytesOf s) (k + 1) = S + 4096 from HU.out)
          clear t0 s0 ha hb
          go_wp2
          go_roundg (s.size + 1 - (k + 1))
          case measure => omega
          case rel => exact ⟨k + 1, rfl, hlt, by rw [HQ.out], by go_num, ⟨by rw [HS2.out, HG.out, HY.out]; rfl⟩, rfl⟩
        · have a3 : decide ((8192 : Int) ≤ S) = false := decide_eq_false (Int.not_le.2 t0)
          have a4 : bits .or .i64 S 8192 = S + 8192 := or_add 13 S (by decide) s0 t0
          have HQ := Aside0.mk (show tagSum (bytesOf s) (k + 1) = S + 8192 from HU.out)
          clear t0 s0 ha hb
          go_wp2
          go_roundg (s.size + 1 - (k + 1))
          case measure => omega
          case rel => exact ⟨k + 1, rfl, hlt, by rw [HQ.out], by go_num, ⟨by rw [HS2.out, HG.out, HY.out]; rfl⟩, rfl⟩
        · have a3 : decide ((16384 : Int) ≤ S) = false := decide_eq_false (Int.not_le.2 t0)
          have a4 : bits .or .i64 S 16384 = S + 16384 := or_add 14 S (by decide) s0 t0
          have HQ := Aside0.mk (show tagSum (bytesOf s) (k + 1) = S + 16384 from HU.out)
          clear t0 s0 ha hb
          go_wp2
          go_roundg (s.size + 1 - (k + 1))
          case measure => omega
          case rel => exact ⟨k + 1, rfl, hlt, by rw [HQ.out], by go_num, ⟨by rw [HS2.out, HG.out, HY.out]; rfl⟩, rfl⟩
        · have a3 : decide ((32768 : Int) ≤ S) = false := decide_eq_false (Int.not_le.2 t0)
          have a4 : bits .or .i64 S 32768 = S + 32768 := or_add 15 S (by decide) s0 t0
          have HQ := Aside0.mk (show tagSum (bytesOf s) (k + 1) = S + 32768 from HU.out)
          clear t0 s0 ha hb
          go_wp2
          go_roundg (s.size + 1 - (k + 1))
          case measure => omega
          case rel => exact ⟨k + 1, rfl, hlt, by rw [HQ.out], by go_num, ⟨by rw [HS2.out, HG.out, HY.out]; rfl⟩, rfl⟩
    · have hke : s.size = k := by omega
      subst hke
      have HV := Aside0.mk (show tagOk (bytesOf s) = decide (0 < s.size) by have h := tagOk_all HNE.out (by rw [HL.out]; exact HG.out); rw [h, HL.out])
      have HLL := Aside0.mk (show tagSum (bytesOf s) s.size = tagSum (bytesOf s) (bytesOf s).length by rw [HL.out])
      obtain ⟨q, j1, j2⟩ := HF2.out
      obtain ⟨x1, x2⟩ := lay (Below.refl _ _) j1
      clear j1 j2
      cases frm with
      | true =>
        go_wp2
        go_ret
        exact ⟨_, rfl, fun _ => HLL.out, by simpa using HF2.out.set true, HT2.out.trans (Tch.set rfl)⟩
      | false =>
        have h0 := HH0.out
        rcases Nat.eq_zero_or_pos s.size with hz0 | hz0
        · rw [decide_eq_true (show bytesOf s = ofU [] from List.eq_nil_of_length_eq_zero (by rw [HL.out, hz0]))] at h0
          have HZ0 := Aside0.mk hz0; clear hz0
          go_wp2
          go_ret
          exact ⟨_, rfl, fun _ => HLL.out, by rw [HV.out, decide_eq_false (by rw [HZ0.out]; decide)]; simpa using HF2.out.set true, HT2.out.trans (Tch.set rfl)⟩
        · rw [decide_eq_false (show ¬ bytesOf s = ofU [] from fun e => by have := congrArg List.length e; rw [HL.out, ofU_len] at this; simp only [List.length_nil] at this; omega)] at h0
          have HZ0 := Aside0.mk hz0; clear hz0
          go_wp2
          go_ret
          exact ⟨_, rfl, fun _ => HLL.out, by rw [HV.out, decide_eq_true HZ0.out]; simpa using HF2.out.set false, HT2.out.trans (Tch.set rfl)⟩
end Go.Proofs.YtogjkkbhmanbmaaGreatDoor.L1
namespace Go.Proofs.YtogjkkbhmanbmaaGreatDoor.L1
open Go.RowKit Go.Proofs.YtogjkkbhmanbmaaGreatDoorW.PrintWords Go.Proofs.YtogjkkbhmanbmaaGreatDoor.B
set_option linter.unusedVariables false
set_option linter.unusedSimpArgs false
attribute [local go_sem] mk_cell mk_frozen
def strAt (ss : List ByteArray) (j : Nat) : ByteArray := ss.getD j ByteArray.empty
/-- The words of a line, as strings in a block. -/
def Strs (W : World) (B : Nat) (ss : List ByteArray) : Prop := (∀ j, j < ss.length → W.cell? ⟨B, j, none⟩ = some (.string (strAt ss j))) ∧ ∀ j, (strAt ss j).size ≤ 1048576
theorem cell_size {W : World} {b o : Nat} {v : Value} (h : W.cell? ⟨b, o, none⟩ = some v) : b < W.heap.size := by
  unfold World.cell? at h
  rcases Nat.lt_or_ge b W.heap.size with h1 | h1
  · exact h1
  · simp [Array.getElem?_eq_none h1] at h
theorem tch_cell {W W1 : World} {g b o : Nat} {v : Value} (h : Tch (fun k => k = g) W W1) (hn : b ≠ g) (hc : W.cell? ⟨b, o, none⟩ = some v) : W1.cell? ⟨b, o, none⟩ = some v := by
  have := h.same b (cell_size hc) hn
  unfold World.cell? at hc ⊢
  rw [this]; exact hc
theorem Strs.tch {W W1 : World} {g B : Nat} {ss : List ByteArray} (h : Strs W B ss) (ht : Tch (fun k => k = g) W W1) (hn : B ≠ g) : Strs W1 B ss := ⟨fun j hj => tch_cell ht hn (h.1 j hj), h.2⟩
theorem Strs.below {W W1 : World} {B : Nat} {ss : List ByteArray} (h : Strs W B ss) (hb : Below W.heap.size W W1) : Strs W1 B ss := ⟨fun j hj => pw_cell_below hb (h.1 j hj), h.2⟩
theorem tch_new {S : Nat → Prop} {W W1 W2 : World} {b : Nat} (h : Tch S W W1) (hw : Tch (fun k => k = b) W1 W2) (hb : W.heap.size ≤ b) : Tch S W W2 :=
  ⟨Nat.le_trans h.size hw.size, fun k hk hs => (hw.same k (Nat.lt_of_lt_of_le hk h.size) (by intro e; omega)).trans (h.same k hk hs), fun w0 h0 hB => hw.below w0 (fun k hk => by have := hB.size; omega) (h.below w0 h0 hB)⟩
def wordsOf (ss : List ByteArray) : List (List Int) := ss.map bytesOf
theorem wordsOf_at (ss : List ByteArray) (j : Nat) : (wordsOf ss).getD j [] = bytesOf (strAt ss j) := by
  unfold wordsOf strAt
  rw [List.getD_eq_getElem?_getD, List.getD_eq_getElem?_getD, List.getElem?_map]
  cases ss[j]? with
  | none => rfl
  | some s => rfl
def five (fs : List (List Int)) (i : Nat) : Bool := isNum (fs.getD i []) && isNum (fs.getD (i + 1) []) && isNum (fs.getD (i + 2) []) && isNum (fs.getD (i + 3) []) && isNum (fs.getD (i + 4) [])
set_option maxRecDepth 100000 in
set_option maxHeartbeats 4000000 in
theorem impl_fplace (w0 w : World) (hG : Gl w0) (hB : Below w0.heap.size w0 w) (g B i m : Nat) (hg : w0.heap.size ≤ g) (hBg : B ≠ g) (frm : Bool) (ss : List ByteArray) (hF : FAt w g B i (m + 5) frm) (hs : Strs w B ss) (hi : i + 5 ≤ ss.length) :
    Calls Tryz.prog 39 #[.pointer (some ⟨g, 0, none⟩)] w fun e w' => ∃ q : Place, e = .returned (.agg #[.int .i64 q.x, .int .i64 q.y, .int .i64 q.o, .int .i64 q.c, .int .i64 q.h]) ∧ (five (wordsOf ss) i = true → q = placeOf (wordsOf ss) i) ∧ FAt w' g B (i + 5) m (frm || !five (wordsOf ss) i) ∧ Tch (fun k => k = g) w w' := by
  have HGL := Aside0.mk hG; have HGE := Aside0.mk hg; have HNE := Aside0.mk hBg; have HI := Aside0.mk hi
  have HFV := Aside0.mk (show five (wordsOf ss) i = (isNum (bytesOf (strAt ss i)) && isNum (bytesOf (strAt ss (i + 1))) && isNum (bytesOf (strAt ss (i + 2))) && isNum (bytesOf (strAt ss (i + 3))) && isNum (bytesOf (strAt ss (i + 4)))) by unfold five; simp only [wordsOf_at])
  have HPO := Aside0.mk (show placeOf (wordsOf ss) i = ⟨numVal (bytesOf (strAt ss i)), numVal (bytesOf (strAt ss (i + 1))), numVal (bytesOf (strAt ss (i + 2))), numVal (bytesOf (strAt ss (i + 3))), numVal (bytesOf (strAt ss (i + 4)))⟩ by unfold placeOf; simp only [wordsOf_at])
  have hb0 := below_alloc (Below.refl w.heap.size w) (.cells #[.int .i64 0, .int .i64 0, .int .i64 0, .int .i64 0, .int .i64 0] 57)
  have HF0 := Aside0.mk (FAt.below (m := m + 5) hF hb0)
  have HS0 := Aside0.mk (hs.below hb0)
  have HB0 := Aside0.mk (bel_box hB (.cells #[.int .i64 0, .int .i64 0, .int .i64 0, .int .i64 0, .int .i64 0] 57))
  have HT0 := Aside0.mk (Tch.of_below (S := fun k => k = g) hb0)
  have HP0 := Aside0.mk (al_new w (.cells #[.int .i64 0, .int .i64 0, .int .i64 0, .int .i64 0, .int .i64 0] 57))
  have HGP := Aside0.mk (show g ≠ w.heap.size from fun e => by obtain ⟨q, h1, _⟩ := hF; have := blk_lt' h1; omega)
  clear hG hB hg hBg hi hF hs hb0
  go_enter Tryz.func39, Tryz.ntmps39
  go_wp2_with fail
  go_at_call 37
  refine (impl_number w0 _ HGL.out HB0.out g B (i) (m + 4) HGE.out (frm) (strAt ss (i)) HF0.out (HS0.out.1 (i) (by have := HI.out; omega)) (HS0.out.2 (i))).mono ?_
  rintro e w1 ⟨v0, rfl, hv0, hF, hT⟩
  have HV0 := Aside0.mk hv0; have HF1 := Aside0.mk hF; have HT1 := Aside0.mk (HT0.out.trans hT); have HB1 := Aside0.mk (hT.below w0 (fun k hk => by rw [hk]; exact HGE.out) HB0.out); have HS1 := Aside0.mk (HS0.out.tch hT HNE.out); have HP1 := Aside0.mk ((hT.same _ (blk_lt' HP0.out) (Ne.symm HGP.out)).trans HP0.out); clear hv0 hF hT
  go_wp2_with fail
  go_at_call 37
  refine (impl_number w0 _ HGL.out HB1.out g B (i + 1) (m + 3) HGE.out (frm || !isNum (bytesOf (strAt ss (i)))) (strAt ss (i + 1)) HF1.out (HS1.out.1 (i + 1) (by have := HI.out; omega)) (HS1.out.2 (i + 1))).mono ?_
  rintro e w2 ⟨v1, rfl, hv1, hF, hT⟩
  have HV1 := Aside0.mk hv1; have HF2 := Aside0.mk hF; have HT2 := Aside0.mk (HT1.out.trans hT); have HB2 := Aside0.mk (hT.below w0 (fun k hk => by rw [hk]; exact HGE.out) HB1.out); have HS2 := Aside0.mk (HS1.out.tch hT HNE.out); have HP2 := Aside0.mk ((hT.same _ (blk_lt' HP1.out) (Ne.symm HGP.out)).trans HP1.out); clear hv1 hF hT
  go_wp2_with fail
  go_at_call 37
  refine (impl_number w0 _ HGL.out HB2.out g B (i + 2) (m + 2) HGE.out ((frm || !isNum (bytesOf (strAt ss (i)))) || !isNum (bytesOf (strAt ss (i + 1)))) (strAt ss (i + 2)) HF2.out (HS2.out.1 (i + 2) (by have := HI.out; omega)) (HS2.out.2 (i + 2))).mono ?_
  rintro e w3 ⟨v2, rfl, hv2, hF, hT⟩
  have HV2 := Aside0.mk hv2; have HF3 := Aside0.mk hF; have HT3 := Aside0.mk (HT2.out.trans hT); have HB3 := Aside0.mk (hT.below w0 (fun k hk => by rw [hk]; exact HGE.out) HB2.out); have HS3 := Aside0.mk (HS2.out.tch hT HNE.out); have HP3 := Aside0.mk ((hT.same _ (blk_lt' HP2.out) (Ne.symm HGP.out)).trans HP2.out); clear hv2 hF hT
  go_wp2_with fail
  go_at_call 37
  refine (impl_number w0 _ HGL.out HB3.out g B (i + 3) (m + 1) HGE.out (((frm || !isNum (bytesOf (strAt ss (i)))) || !isNum (bytesOf (strAt ss (i + 1)))) || !isNum (bytesOf (strAt ss (i + 2)))) (strAt ss (i + 3)) HF3.out (HS3.out.1 (i + 3) (by have := HI.out; omega)) (HS3.out.2 (i + 3))).mono ?_
  rintro e w4 ⟨v3, rfl, hv3, hF, hT⟩
  have HV3 := Aside0.mk hv3; have HF4 := Aside0.mk hF; have HT4 := Aside0.mk (HT3.out.trans hT); have HB4 := Aside0.mk (hT.below w0 (fun k hk => by rw [hk]; exact HGE.out) HB3.out); have HS4 := Aside0.mk (HS3.out.tch hT HNE.out); have HP4 := Aside0.mk ((hT.same _ (blk_lt' HP3.out) (Ne.symm HGP.out)).trans HP3.out); clear hv3 hF hT
  go_wp2_with fail
  go_at_call 37
  refine (impl_number w0 _ HGL.out HB4.out g B (i + 4) (m + 0) HGE.out ((((frm || !isNum (bytesOf (strAt ss (i)))) || !isNum (bytesOf (strAt ss (i + 1)))) || !isNum (bytesOf (strAt ss (i + 2)))) || !isNum (bytesOf (strAt ss (i + 3)))) (strAt ss (i + 4)) HF4.out (HS4.out.1 (i + 4) (by have := HI.out; omega)) (HS4.out.2 (i + 4))).mono ?_
  rintro e w5 ⟨v4, rfl, hv4, hF, hT⟩
  have HV4 := Aside0.mk hv4; have HF5 := Aside0.mk hF; have HT5 := Aside0.mk (HT4.out.trans hT); have HB5 := Aside0.mk (hT.below w0 (fun k hk => by rw [hk]; exact HGE.out) HB4.out); have HS5 := Aside0.mk (HS4.out.tch hT HNE.out); have HP5 := Aside0.mk ((hT.same _ (blk_lt' HP4.out) (Ne.symm HGP.out)).trans HP4.out); clear hv4 hF hT
  obtain ⟨p1, p2⟩ := lay (Below.refl _ _) HP5.out
  go_wp2_with ((with_reducible refine gate_store (t := 57) (p := 2) rfl ?_); refine wpList_putAll rfl rfl _ _ _ rfl (g := w.heap.size) [.int .i64 v0, .int .i64 v1, .int .i64 v2, .int .i64 v3, .int .i64 v4] rfl rfl (by kernel_rfl) (List.all_eq_true.1 (show List.all [.int .i64 v0, .int .i64 v1, .int .i64 v2, .int .i64 v3, .int .i64 v4] Value.oneCell' = true from rfl)) HP5.out rfl ?_; intro w6 hX hT hz; clear hz p1 p2; have HX := Aside0.mk hX; have HT6 := Aside0.mk (tch_new HT5.out hT (Nat.le_refl _)); have HF6 := Aside0.mk (show FAt w6 g B (i + 5) m (((((frm || !isNum (bytesOf (strAt ss (i)))) || !isNum (bytesOf (strAt ss (i + 1)))) || !isNum (bytesOf (strAt ss (i + 2)))) || !isNum (bytesOf (strAt ss (i + 3)))) || !isNum (bytesOf (strAt ss (i + 4)))) from by obtain ⟨q, h1, h2⟩ := HF5.out; exact ⟨q, (hT.same g (blk_lt' h1) HGP.out).trans h1, h2⟩); clear hX hT)
  refine bodyPost_ret (results_cell Tryz.results39 rfl HX.out Tryz.underlying57 rfl (by kernel_rfl)) rfl ?_
  refine ⟨⟨v0, v1, v2, v3, v4⟩, rfl, fun h => ?_, ?_, HT6.out⟩
  · rw [HFV.out] at h
    simp only [Bool.and_eq_true] at h
    rw [HPO.out, HV0.out h.1.1.1.1, HV1.out h.1.1.1.2, HV2.out h.1.1.2, HV3.out h.1.2, HV4.out h.2]
  · have h := HF6.out
    rw [HFV.out]
    generalize isNum (bytesOf (strAt ss i)) = b0 at h ⊢
    generalize isNum (bytesOf (strAt ss (i + 1))) = b1 at h ⊢
    generalize isNum (bytesOf (strAt ss (i + 2))) = b2 at h ⊢
    generalize isNum (bytesOf (strAt ss (i + 3))) = b3 at h ⊢
    generalize isNum (bytesOf (strAt ss (i + 4))) = b4 at h ⊢
    clear HFV HPO HV0 HV1 HV2 HV3 HV4 HF0 HF1 HF2 HF3 HF4 HF5 HF6
    cases frm <;> cases b0 <;> cases b1 <;> cases b2 <;> cases b3 <;> cases b4 <;> exact h
end Go.Proofs.YtogjkkbhmanbmaaGreatDoor.L1
namespace Go.Proofs.YtogjkkbhmanbmaaGreatDoor.L1
open Go.RowKit Go.Proofs.YtogjkkbhmanbmaaGreatDoorW.PrintWords Go.Proofs.YtogjkkbhmanbmaaGreatDoor.B
set_option linter.unusedVariables false
set_option linter.unusedSimpArgs false
attribute [local go_sem] mk_cell mk_frozen
theorem own_cells {α : Type} {d : Kd α} {e base : Nat} {W : World} {ok : Nat → Prop} {v : Value} {xs : List α} (h : d.R e W base ok v xs) : ∀ i, v.ownBlock = some i → ∃ (cs : Array Value) (fr : Nat × Nat), W.heap[i]? = some (Obj.cells cs e fr) := fun i e => by
  obtain ⟨inner, ho⟩ := Kd.R_own h
  obtain ⟨cells, hc⟩ := own_typed ho i e
  exact ⟨cells, _, hc⟩
theorem box_apart {α : Type} {d : Kd α} {e base : Nat} {W W1 : World} {ok : Nat → Prop} {v : Value} {xs : List α} {b : Nat} {cs : Array Value} {T : TypeId} (h : d.R e W base ok v xs) (hg : W.grownBy W1 v.ownBlock) (hb : W.heap[b]? = some (.cells cs T (0, 0))) (hne : e ≠ T) : W1.heap[b]? = some (.cells cs T (0, 0)) := (hg.block b (blk_lt' hb) (Kd.R_ne h hb hne)).trans hb
theorem R_fresh {α : Type} {d : Kd α} {e base b : Nat} {W W1 : World} {ok : Nat → Prop} {v : Value} {xs : List α} (h : d.R e W base ok v xs) (hb : Below W.heap.size W W1) (hlo : W.heap.size ≤ b) : d.R e W1 base (fun k => k ≠ b) v xs :=
  Kd.R_mono (Kd.R_below (Kd.R_bound h) hb) fun k hk he => by have := hk.2.2.1; omega
theorem R_miss {α : Type} {d : Kd α} {e base b : Nat} {W W1 : World} {v : Value} {xs : List α} (h : d.R e W base (fun k => k ≠ b) v xs) (ht : Tch (fun k => k = b) W W1) : d.R e W1 base (fun _ => True) v xs :=
  Kd.R_mono (Kd.R_step h fun k ho hk => ht.same k hk ho) fun _ _ => trivial
theorem tch_ne {W W' : World} {b k : Nat} {o : Obj} (ht : Tch (fun k => k = b) W W') (hx : W.heap[k]? = some o) (hne : k ≠ b) : W'.heap[k]? = some o := (ht.same k (blk_lt' hx) hne).trans hx
section
variable (w : World)
set_option maxRecDepth 100000 in
set_option maxHeartbeats 8000000 in
theorem spec_line0 (w0 : World) (A0 A1 A2 : Option Addr) (c0 c1 c2 : Nat) (x : Inst) (h0 : kVeh.R 60 w w0.heap.size (fun _ => True) (.slice A0 x.vs.length c0) x.vs) (h1 : kReq.R 63 w w0.heap.size (fun _ => True) (.slice A1 x.qs.length c1) x.qs) (h2 : kRoad.R 66 w w0.heap.size (fun _ => True) (.slice A2 x.rs.length c2) x.rs) (hB : Below w0.heap.size w0 w) (f0 : x.vs.length ≤ 64) (f1 : x.qs.length ≤ 1000) (f2 : x.rs.length ≤ 4000)
    (Al : Option Addr) (cl : Nat) (line : List Int) (hl : kByte.C w Al line.length line) (ht : Tame line) (hk : kindOf ((pieces 32 line).getD 0 []) = 0) (z : Nat) (zc : Array Value) (hz : w.heap[z]? = some (.cells zc 27 (0, 0))) : Calls Tryz.prog 13 #[.agg #[.slice A0 x.vs.length c0, .slice A1 x.qs.length c1, .slice A2 x.rs.length c2], .slice Al line.length cl] w fun e w' => ∃ u, e = .returned (.tuple #[.int .i64 (lineP x line).1, u]) ∧ OwnI w' w0.heap.size u (lineP x line).2 ∧ Below w0.heap.size w0 w' ∧ w'.heap[z]? = some (.cells zc 27 (0, 0)) := by
  have HZZ0 := Aside0.mk (blk_box (blk_box hz (.cells #[.slice A0 x.vs.length c0, .slice A1 x.qs.length c1, .slice A2 x.rs.length c2] 27)) (.cells #[.slice none 0 0, .slice none 0 0, .slice none 0 0] 27)); have HZL := Aside0.mk (blk_lt' hz); clear hz
  have HLN := Aside0.mk hl; have HTM := Aside0.mk ht; have HK := Aside0.mk hk; have HB := Aside0.mk hB; have HF := Aside0.mk (And.intro f0 (And.intro f1 f2))
  have HB0 := Aside0.mk (bel_box (bel_box hB (.cells #[.slice A0 x.vs.length c0, .slice A1 x.qs.length c1, .slice A2 x.rs.length c2] 27)) (.cells #[.slice none 0 0, .slice none 0 0, .slice none 0 0] 27))
  have HC0 := Aside0.mk (below_alloc (below_alloc (Below.refl w.heap.size w) (.cells #[.slice A0 x.vs.length c0, .slice A1 x.qs.length c1, .slice A2 x.rs.length c2] 27)) (.cells #[.slice none 0 0, .slice none 0 0, .slice none 0 0] 27))
  have h := blk_box (al_new w (.cells #[.slice A0 x.vs.length c0, .slice A1 x.qs.length c1, .slice A2 x.rs.length c2] 27)) (.cells #[.slice none 0 0, .slice none 0 0, .slice none 0 0] 27)
  have HIn0 := Aside0.mk h; clear h
  have h := al_new (w.alloc (.cells #[.slice A0 x.vs.length c0, .slice A1 x.qs.length c1, .slice A2 x.rs.length c2] 27)) (.cells #[.slice none 0 0, .slice none 0 0, .slice none 0 0] 27)
  simp only [al_size] at h
  have HOut0 := Aside0.mk h; clear h
  have HR00 := Aside0.mk (Kd.R_below h0 HC0.out); have HR10 := Aside0.mk (Kd.R_below h1 HC0.out); have HR20 := Aside0.mk (Kd.R_below h2 HC0.out)
  have HGI := Aside0.mk (show w0.heap.size ≤ w.heap.size from hB.size)
  have HGO := Aside0.mk (show w0.heap.size ≤ w.heap.size + 1 from Nat.le_trans hB.size (Nat.le_add_right _ 1))
  have HSZ0 := Aside0.mk (Nat.le_refl ((w.alloc (.cells #[.slice A0 x.vs.length c0, .slice A1 x.qs.length c1, .slice A2 x.rs.length c2] 27)).alloc (.cells #[.slice none 0 0, .slice none 0 0, .slice none 0 0] 27)).heap.size)
  have HZ0 := Aside0.mk (show ((w.alloc (.cells #[.slice A0 x.vs.length c0, .slice A1 x.qs.length c1, .slice A2 x.rs.length c2] 27)).alloc (.cells #[.slice none 0 0, .slice none 0 0, .slice none 0 0] 27)).heap.size = w.heap.size + 2 by simp only [al_size])
  have HLR := Aside0.mk (Kd.C_below hl HC0.out)
  obtain ⟨fs, hfs⟩ : ∃ fs, pieces 32 line = fs := ⟨_, rfl⟩
  rw [show lineP x line = lineW x (pieces 32 line) (kindOf ((pieces 32 line).getD 0 [])) from rfl, hk, hfs]
  have HFS := Aside0.mk hfs
  have HPT := Aside0.mk (fun j => (hfs ▸ ht.piece (sep := 32) j : Tame (fs.getD j []))); have HPL := Aside0.mk (show 0 < fs.length from hfs ▸ pieces_pos 32 line)
  rw [hfs] at HK
  clear hfs
  clear hl ht hk hB f0 f1 f2 h0 h1 h2
  go_enter Tryz.func13, Tryz.ntmps13
  obtain ⟨in1, in2⟩ := lay (Below.refl _ _) HIn0.out
  obtain ⟨out1, out2⟩ := lay (Below.refl _ _) HOut0.out
  go_wp2_with fail
  clear in1 in2 out1 out2
  go_at_call 12
  refine (spec_split _ Al cl line 32 HLR.out HTM.out.1).mono ?_
  rintro e w1 ⟨v, ps, rfl, hr, hf, hfit, hb⟩
  have HB1 := Aside0.mk (bel_call HB0.out hb); have HIn1 := Aside0.mk (blk_below HIn0.out hb); have HOut1 := Aside0.mk (blk_below HOut0.out hb); have HR01 := Aside0.mk (Kd.R_below HR00.out hb); have HR11 := Aside0.mk (Kd.R_below HR10.out hb); have HR21 := Aside0.mk (Kd.R_below HR20.out hb); have HSZ1 := Aside0.mk (Nat.le_trans HSZ0.out hb.size); rw [HFS.out] at hf hfit; obtain ⟨B, cB, rfl, hcB, hwd⟩ := Flds.words hr hf hfit HPL.out; have HWD := Aside0.mk hwd; clear hr hf hfit hwd; have HZZ1 := Aside0.mk (blk_below HZZ0.out hb); clear hb
  obtain ⟨A, c, y0, hkd⟩ := (HWD.out 0 HPL.out).kind (HPT.out 0)
  rw [HK.out] at hkd
  have HKD := Aside0.mk hkd; clear hkd
  generalize hN : fs.length = N at hcB
  have HN := Aside0.mk hN; clear hN
  have hpos : 0 < N := by have h1 := HN.out; have h2 := HPL.out; omega
  have hposI : (0 : Int) < (N : Int) := by omega
  have HV := Aside0.mk (show lineW x fs 0 = (3, x) from rfl)
  obtain ⟨in1, in2⟩ := lay (Below.refl _ _) HIn1.out
  obtain ⟨out1, out2⟩ := lay (Below.refl _ _) HOut1.out
  go_wp2_with fail
  clear in1 in2 out1 out2
  go_at_call 21
  refine Calls.mono HKD.out ?_
  rintro e w' ⟨rfl, rfl⟩
  obtain ⟨in1, in2⟩ := lay (Below.refl _ _) HIn1.out
  obtain ⟨out1, out2⟩ := lay (Below.refl _ _) HOut1.out
  go_wp2_with fail
  clear in1 in2 out1 out2
  refine wp_region_ret (by kernel_rfl) 21 4 2 5 27 27 (.int .i64 3) ⟨rfl, rfl⟩ ⟨rfl, rfl⟩ ⟨rfl, rfl⟩ (by kernel_rfl) (by kernel_rfl) (by kernel_rfl) (by decide) (show 21 < 185 by decide) rfl rfl Tryz.underlying27 rfl (by kernel_rfl) (by rfl) HIn1.out HOut1.out (Nat.ne_of_lt (Nat.lt_succ_self _)) (List.all_eq_true.1 (show List.all [.slice A0 x.vs.length c0, .slice A1 x.qs.length c1, .slice A2 x.rs.length c2] Value.oneCell' = true from rfl)) ?_
  intro w2 hX hT
  have HZZ2 := Aside0.mk (tch_ne hT HZZ1.out (Nat.ne_of_lt (Nat.lt_succ_of_lt HZL.out)))
  (try simp only [List.setIfInBounds_toArray, List.set_cons_zero, List.set_cons_succ] at hX)
  have HB2 := Aside0.mk (hT.below w0 (fun k hk => by rw [hk]; exact HGO.out) HB1.out); have HIn2 := Aside0.mk (tch_ne hT HIn1.out (Nat.ne_of_lt (Nat.lt_succ_self _))); have HR02 := Aside0.mk (R_tch HR01.out hT HOut1.out (by decide)); have HR12 := Aside0.mk (R_tch HR11.out hT HOut1.out (by decide)); have HR22 := Aside0.mk (R_tch HR21.out hT HOut1.out (by decide)); have HSZ2 := Aside0.mk (Nat.le_trans HSZ1.out hT.size); have HOut2 := Aside0.mk hX; clear hX hT
  go_wp2_with fail
  refine bodyPost_ret (results_two Tryz.results13 rfl HOut2.out Tryz.underlying27 rfl (by kernel_rfl)) rfl ?_
  exact ⟨_, by rw [HV.out]; rfl, by rw [HV.out]; exact ⟨_, _, _, rfl, HR02.out, HR12.out, HR22.out⟩, HB2.out, HZZ2.out⟩
end
end Go.Proofs.YtogjkkbhmanbmaaGreatDoor.L1
