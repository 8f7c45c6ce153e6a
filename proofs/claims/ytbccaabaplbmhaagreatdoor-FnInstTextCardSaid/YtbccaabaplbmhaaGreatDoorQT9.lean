/- The program's fields of a line: tags. The program's fields of a line: a place. A line, as the reference reads it, by its kind. A line, as the reference reads it, by its kind. A line, as the reference reads it, by its kind. A line, as the reference reads it, by its kind. A text of an instance, as the reference reads it. A line's words as the program cuts them; what a line's reader leaves. The reference's draws: an instance, what is drawn and how it lies. -/
import Derived.Test.YtbccaabaplbmhaaGreatDoorQT8
import Derived.Test.YtbccaabaplbmhaaGreatDoorQT7
import Derived.Deep.Cut
import Derived.Deep.CutRange
import Derived.Test.YtbccaabaplbmhaaGreatDoorQT4
namespace Go.Proofs.YtbccaabaplbmhaaGreatDoor.L1
open Go.RowKit Go.Proofs.YtbccaabaplbmhaaGreatDoorW.PrintWords Go.Proofs.YtbccaabaplbmhaaGreatDoor.B
set_option linter.unusedVariables false
set_option linter.unusedSimpArgs false
attribute [local go_sem] mk_cell mk_frozen
theorem bytes_at (s : ByteArray) (j : Nat) (hj : j < s.size) : (((s.data.toList.getD j 0).toNat : Nat) : Int) = (bytesOf s).getD j 0 := by
  have h : j < s.data.toList.length := by rw [← Lib.size_eq]; exact hj
  unfold bytesOf ofU
  rw [List.getD_eq_getElem?_getD, List.getD_eq_getElem?_getD, List.getElem?_map, List.getElem?_eq_getElem h]
  rfl
theorem str_eq (s : ByteArray) (ws : List UInt8) : (s.toList == ws) = decide (bytesOf s = ofU ws) := by
  rw [ByteArray.toList_eq]
  by_cases h : s.data.toList = ws
  · rw [decide_eq_true (show bytesOf s = ofU ws from congrArg ofU h), h]; exact beq_self_eq_true _
  · rw [decide_eq_false (show ¬ bytesOf s = ofU ws from fun e => h (ofU_inj e))]; exact beq_false_of_ne h
set_option maxRecDepth 100000 in
set_option maxHeartbeats 8000000 in
theorem impl_ftags (w0 w : World) (hB : Below w0.heap.size w0 w) (g B i m : Nat) (hg : w0.heap.size ≤ g) (frm : Bool) (s : ByteArray) (hF : FAt w g B i (m + 1) frm) (hs : w.cell? ⟨B, i, none⟩ = some (.string s)) (hz : s.size ≤ 1048576) :
    Calls Tryz.prog 50 #[.pointer (some ⟨g, 0, none⟩)] w fun e w' => ∃ v : Int, e = .returned (.int .i64 v) ∧ (tagOk (bytesOf s) = true → v = tagSum (bytesOf s) (bytesOf s).length) ∧ FAt w' g B (i + 1) m (frm || !tagOk (bytesOf s)) ∧ Tch (fun k => k = g) w w' := by
  have HB := Aside0.mk hB; have HGE := Aside0.mk hg; have HF := Aside0.mk hF; have HS := Aside0.mk hs; have HZ := Aside0.mk hz
  clear hB hg hF hs hz
  go_enter Tryz.func50, Tryz.ntmps50
  go_wp2_with fail
  go_at_call 48
  refine (impl_next _ g B i m frm s HF.out HS.out).mono ?_
  rintro e w1 ⟨rfl, hF, hT⟩
  have HF1 := Aside0.mk hF; have HT1 := Aside0.mk hT; clear hF hT
  have h45 := str_eq s [45]
  by_cases hd : bytesOf s = [45]
  · have HV := Aside0.mk (show tagOk (bytesOf s) = true ∧ tagSum (bytesOf s) (bytesOf s).length = 0 by rw [hd]; exact ⟨rfl, rfl⟩)
    rw [decide_eq_true (show bytesOf s = ofU [45] from hd)] at h45
    clear hd
    go_wp2
    go_ret
    exact ⟨_, rfl, fun _ => HV.out.2.symm, by rw [HV.out.1]; simpa using HF1.out, HT1.out⟩
  have HNE := Aside0.mk hd
  rw [decide_eq_false (show ¬ bytesOf s = ofU [45] from hd)] at h45
  clear hd
  have hcv := Lib.run_convert_string_bytes w1 9 22 5 s Tryz.underlying9 Tryz.underlying22 Tryz.underlying5
  have HBW := Aside0.mk (Lib.bytesWorld_below w1 5 s)
  have HC := Aside0.mk (fun j hj => (Lib.bytesWorld_cell w1 5 s j hj).trans (by rw [bytes_at s j hj]))
  generalize Lib.bytesWorld w1 5 s = w2 at hcv HBW HC
  have HL := Aside0.mk (bytesOf_len s)
  have h0 := str_eq s []
  have HF2 := Aside0.mk (HF1.out.below HBW.out); have HT2 := Aside0.mk (HT1.out.trans (Tch.of_below HBW.out))
  obtain ⟨f, hf⟩ : ∃ f, bytesOf s = f := ⟨_, rfl⟩
  have hz := HZ.out
  have HH0 := Aside0.mk h0; clear h0
  go_wp2_with fail
  clear hcv h45
  go_loopg [4, 6, 14] (s.size + 1) (fun q v4 v6 v14 wr => ∃ k : Nat, q = s.size + 1 - k ∧ k ≤ s.size ∧ v4 = .int .i64 (tagSum (bytesOf s) k) ∧ v14 = .int .i64 k ∧ Aside0 (allI k (tagStep (bytesOf s)) = true) ∧ wr = w2)
  case atStart => exact ⟨0, by omega, by omega, rfl, rfl, ⟨rfl⟩, rfl⟩
  case round =>
    obtain ⟨k, rfl, hk, rfl, rfl, HG, rfl⟩ := hrel
    by_cases hlt : k < s.size
    · have y0 := HC.out k hlt
      have HS2 := Aside0.mk (show allI (k + 1) (tagStep (bytesOf s)) = (allI k (tagStep (bytesOf s)) && tagStep (bytesOf s) k) from allI_succ k _)
      have HKL := Aside0.mk (show k < (bytesOf s).length by rw [HL.out]; exact hlt)
      have hlu : ((k : Nat) : Int) < (s.size : Int) := by omega
      have HTN := Aside0.mk (fun hy => tag_next HG.out hy)
      have HU := Aside0.mk (show tagSum (bytesOf s) (k + 1) = tagSum (bytesOf s) k + tagBit ((bytesOf s).getD k 0) from rfl)
      have HBAD := Aside0.mk (fun h => tagOk_bad HNE.out HKL.out h)
      have HST := Aside0.mk (show tagStep (bytesOf s) k = (inB ((bytesOf s).getD k 0) 97 112 && (decide (k = 0) || decide ((bytesOf s).getD (k - 1) 0 < (bytesOf s).getD k 0))) from rfl)
      generalize (bytesOf s).getD k 0 = y at y0 HTN HU HST
      generalize tagSum (bytesOf s) k = S at HTN HU ⊢
      obtain ⟨q, j1, j2⟩ := HF2.out
      obtain ⟨x1, x2⟩ := lay (Below.refl _ _) j1
      clear j1 j2
      rcases Int.lt_or_le y 97 with ha | ha
      · have HV := Aside0.mk (HBAD.out (by rw [HST.out]; unfold inB; rw [decide_eq_false (show ¬ 97 ≤ y by omega)]; rfl))
        have a0 : decide (y < 97) = true := decide_eq_true ha
        clear ha
        go_wp2
        go_ret
        exact ⟨_, rfl, fun h => absurd (h.symm.trans HV.out) (by decide), by rw [HV.out]; simpa using HF2.out.set true, HT2.out.trans (Tch.set rfl)⟩
      rcases Int.lt_or_le 112 y with hb | hb
      · have HV := Aside0.mk (HBAD.out (by rw [HST.out]; unfold inB; rw [decide_eq_false (show ¬ y ≤ 112 by omega)]; simp))
        have a0 : decide (y < 97) = false := decide_eq_false (by omega)
        have a1 : decide (113 ≤ y) = true := decide_eq_true (by omega)
        clear ha hb
        go_wp2
        go_ret
        exact ⟨_, rfl, fun h => absurd (h.symm.trans HV.out) (by decide), by rw [HV.out]; simpa using HF2.out.set true, HT2.out.trans (Tch.set rfl)⟩
      obtain ⟨s0, s1, s2⟩ := HTN.out ⟨ha, hb⟩
      have hcs : y = 97 ∨ y = 98 ∨ y = 99 ∨ y = 100 ∨ y = 101 ∨ y = 102 ∨ y = 103 ∨ y = 104 ∨ y = 105 ∨ y = 106 ∨ y = 107 ∨ y = 108 ∨ y = 109 ∨ y = 110 ∨ y = 111 ∨ y = 112 := by omega
      cases hstep : tagStep (bytesOf s) k with
      | false =>
        have HV := Aside0.mk (HBAD.out hstep)
        have t0 := s2 hstep
        clear s1 s2 hstep HST HTN
        rcases hcs with rfl | rfl | rfl | rfl | rfl | rfl | rfl | rfl | rfl | rfl | rfl | rfl | rfl | rfl | rfl | rfl
        · have a3 : decide ((1 : Int) ≤ S) = true := decide_eq_true t0
          clear t0 s0 ha hb
          go_wp2
          go_ret
          exact ⟨_, rfl, fun h => absurd (h.symm.trans HV.out) (by decide), by rw [HV.out]; simpa using HF2.out.set true, HT2.out.trans (Tch.set rfl)⟩
        · have a3 : decide ((2 : Int) ≤ S) = true := decide_eq_true t0
          clear t0 s0 ha hb
          go_wp2
          go_ret
          exact ⟨_, rfl, fun h => absurd (h.symm.trans HV.out) (by decide), by rw [HV.out]; simpa using HF2.out.set true, HT2.out.trans (Tch.set rfl)⟩
        · have a3 : decide ((4 : Int) ≤ S) = true := decide_eq_true t0
          clear t0 s0 ha hb
          go_wp2
          go_ret
          exact ⟨_, rfl, fun h => absurd (h.symm.trans HV.out) (by decide), by rw [HV.out]; simpa using HF2.out.set true, HT2.out.trans (Tch.set rfl)⟩
        · have a3 : decide ((8 : Int) ≤ S) = true := decide_eq_true t0
          clear t0 s0 ha hb
          go_wp2
          go_ret
          exact ⟨_, rfl, fun h => absurd (h.symm.trans HV.out) (by decide), by rw [HV.out]; simpa using HF2.out.set true, HT2.out.trans (Tch.set rfl)⟩
        · have a3 : decide ((16 : Int) ≤ S) = true := decide_eq_true t0
          clear t0 s0 ha hb
          go_wp2
          go_ret
          exact ⟨_, rfl, fun h => absurd (h.symm.trans HV.out) (by decide), by rw [HV.out]; simpa using HF2.out.set true, HT2.out.trans (Tch.set rfl)⟩
        · have a3 : decide ((32 : Int) ≤ S) = true := decide_eq_true t0
          clear t0 s0 ha hb
          go_wp2
          go_ret
          exact ⟨_, rfl, fun h => absurd (h.symm.trans HV.out) (by decide), by rw [HV.out]; simpa using HF2.out.set true, HT2.out.trans (Tch.set rfl)⟩
        · have a3 : decide ((64 : Int) ≤ S) = true := decide_eq_true t0
          clear t0 s0 ha hb
          go_wp2
          go_ret
          exact ⟨_, rfl, fun h => absurd (h.symm.trans HV.out) (by decide), by rw [HV.out]; simpa using HF2.out.set true, HT2.out.trans (Tch.set rfl)⟩
        · have a3 : decide ((128 : Int) ≤ S) = true := decide_eq_true t0
          clear t0 s0 ha hb
          go_wp2
          go_ret
          exact ⟨_, rfl, fun h => absurd (h.symm.trans HV.out) (by decide), by rw [HV.out]; simpa using HF2.out.set true, HT2.out.trans (Tch.set rfl)⟩
        · have a3 : decide ((256 : Int) ≤ S) = true := decide_eq_true t0
          clear t0 s0 ha hb
          go_wp2
          go_ret
          exact ⟨_, rfl, fun h => absurd (h.symm.trans HV.out) (by decide), by rw [HV.out]; simpa using HF2.out.set true, HT2.out.trans (Tch.set rfl)⟩
        · have a3 : decide ((512 : Int) ≤ S) = true := decide_eq_true t0
          clear t0 s0 ha hb
          go_wp2
          go_ret
          exact ⟨_, rfl, fun h => absurd (h.symm.trans HV.out) (by decide), by rw [HV.out]; simpa using HF2.out.set true, HT2.out.trans (Tch.set rfl)⟩
        · have a3 : decide ((1024 : Int) ≤ S) = true := decide_eq_true t0
          clear t0 s0 ha hb
          go_wp2
          go_ret
          exact ⟨_, rfl, fun h => absurd (h.symm.trans HV.out) (by decide), by rw [HV.out]; simpa using HF2.out.set true, HT2.out.trans (Tch.set rfl)⟩
        · have a3 : decide ((2048 : Int) ≤ S) = true := decide_eq_true t0
          clear t0 s0 ha hb
          go_wp2
          go_ret
          exact ⟨_, rfl, fun h => absurd (h.symm.trans HV.out) (by decide), by rw [HV.out]; simpa using HF2.out.set true, HT2.out.trans (Tch.set rfl)⟩
        · have a3 : decide ((4096 : Int) ≤ S) = true := decide_eq_true t0
          clear t0 s0 ha hb
          go_wp2
          go_ret
          exact ⟨_, rfl, fun h => absurd (h.symm.trans HV.out) (by decide), by rw [HV.out]; simpa using HF2.out.set true, HT2.out.trans (Tch.set rfl)⟩
        · have a3 : decide ((8192 : Int) ≤ S) = true := decide_eq_true t0
          clear t0 s0 ha hb
          go_wp2
          go_ret
          exact ⟨_, rfl, fun h => absurd (h.symm.trans HV.out) (by decide), by rw [HV.out]; simpa using HF2.out.set true, HT2.out.trans (Tch.set rfl)⟩
        · have a3 : decide ((16384 : Int) ≤ S) = true := decide_eq_true t0
          clear t0 s0 ha hb
          go_wp2
          go_ret
          exact ⟨_, rfl, fun h => absurd (h.symm.trans HV.out) (by decide), by rw [HV.out]; simpa using HF2.out.set true, HT2.out.trans (Tch.set rfl)⟩
        · have a3 : decide ((32768 : Int) ≤ S) = true := decide_eq_true t0
          clear t0 s0 ha hb
          go_wp2
          go_ret
          exact ⟨_, rfl, fun h => absurd (h.symm.trans HV.out) (by decide), by rw [HV.out]; simpa using HF2.out.set true, HT2.out.trans (Tch.set rfl)⟩
      | true =>
        have t0 := s1 hstep
        have HY := Aside0.mk hstep
        clear s1 s2 hstep HST HTN
        rcases hcs with rfl | rfl | rfl | rfl | rfl | rfl | rfl | rfl | rfl | rfl | rfl | rfl | rfl | rfl | rfl | rfl
        · have a3 : decide ((1 : Int) ≤ S) = false := decide_eq_false (Int.not_le.2 t0)
          have a4 : bits .or .i64 S 1 = S + 1 := or_add 0 S (by decide) s0 t0
          have HQ := Aside0.mk (show tagSum (bytesOf s) (k + 1) = S + 1 from HU.out)
          clear t0 s0 ha hb
          go_wp2
          go_roundg (s.size + 1 - (k + 1))
          case measure => omega
          case rel => exact ⟨k + 1, rfl, hlt, by rw [HQ.out], by go_num, ⟨by rw [HS2.out, HG.out, HY.out]; rfl⟩, rfl⟩
        · have a3 : decide ((2 : Int) ≤ S) = false := decide_eq_false (Int.not_le.2 t0)
          have a4 : bits .or .i64 S 2 = S + 2 := or_add 1 S (by decide) s0 t0
          have HQ := Aside0.mk (show tagSum (bytesOf s) (k + 1) = S + 2 from HU.out)
          clear t0 s0 ha hb
          go_wp2
          go_roundg (s.size + 1 - (k + 1))
          case measure => omega
          case rel => exact ⟨k + 1, rfl, hlt, by rw [HQ.out], by go_num, ⟨by rw [HS2.out, HG.out, HY.out]; rfl⟩, rfl⟩
        · have a3 : decide ((4 : Int) ≤ S) = false := decide_eq_false (Int.not_le.2 t0)
          have a4 : bits .or .i64 S 4 = S + 4 := or_add 2 S (by decide) s0 t0
          have HQ := Aside0.mk (show tagSum (bytesOf s) (k + 1) = S + 4 from HU.out)
          clear t0 s0 ha hb
          go_wp2
          go_roundg (s.size + 1 - (k + 1))
          case measure => omega
          case rel => exact ⟨k + 1, rfl, hlt, by rw [HQ.out], by go_num, ⟨by rw [HS2.out, HG.out, HY.out]; rfl⟩, rfl⟩
        · have a3 : decide ((8 : Int) ≤ S) = false := decide_eq_false (Int.not_le.2 t0)
          have a4 : bits .or .i64 S 8 = S + 8 := or_add 3 S (by decide) s0 t0
          have HQ := Aside0.mk (show tagSum (bytesOf s) (k + 1) = S + 8 from HU.out)
          clear t0 s0 ha hb
          go_wp2
          go_roundg (s.size + 1 - (k + 1))
          case measure => omega
          case rel => exact ⟨k + 1, rfl, hlt, by rw [HQ.out], by go_num, ⟨by rw [HS2.out, HG.out, HY.out]; rfl⟩, rfl⟩
        · have a3 : decide ((16 : Int) ≤ S) = false := decide_eq_false (Int.not_le.2 t0)
          have a4 : bits .or .i64 S 16 = S + 16 := or_add 4 S (by decide) s0 t0
          have HQ := Aside0.mk (show tagSum (bytesOf s) (k + 1) = S + 16 from HU.out)
          clear t0 s0 ha hb
          go_wp2
          go_roundg (s.size + 1 - (k + 1))
          case measure => omega
          case rel => exact ⟨k + 1, rfl, hlt, by rw [HQ.out], by go_num, ⟨by rw [HS2.out, HG.out, HY.out]; rfl⟩, rfl⟩
        · have a3 : decide ((32 : Int) ≤ S) = false := decide_eq_false (Int.not_le.2 t0)
          have a4 : bits .or .i64 S 32 = S + 32 := or_add 5 S (by decide) s0 t0
          have HQ := Aside0.mk (show tagSum (bytesOf s) (k + 1) = S + 32 from HU.out)
          clear t0 s0 ha hb
          go_wp2
          go_roundg (s.size + 1 - (k + 1))
          case measure => omega
          case rel => exact ⟨k + 1, rfl, hlt, by rw [HQ.out], by go_num, ⟨by rw [HS2.out, HG.out, HY.out]; rfl⟩, rfl⟩
        · have a3 : decide ((64 : Int) ≤ S) = false := decide_eq_false (Int.not_le.2 t0)
          have a4 : bits .or .i64 S 64 = S + 64 := or_add 6 S (by decide) s0 t0
          have HQ := Aside0.mk (show tagSum (bytesOf s) (k + 1) = S + 64 from HU.out)
          clear t0 s0 ha hb
          go_wp2
          go_roundg (s.size + 1 - (k + 1))
          case measure => omega
          case rel => exact ⟨k + 1, rfl, hlt, by rw [HQ.out], by go_num, ⟨by rw [HS2.out, HG.out, HY.out]; rfl⟩, rfl⟩
        · have a3 : decide ((128 : Int) ≤ S) = false := decide_eq_false (Int.not_le.2 t0)
          have a4 : bits .or .i64 S 128 = S + 128 := or_add 7 S (by decide) s0 t0
          have HQ := Aside0.mk (show tagSum (bytesOf s) (k + 1) = S + 128 from HU.out)
          clear t0 s0 ha hb
          go_wp2
          go_roundg (s.size + 1 - (k + 1))
          case measure => omega
          case rel => exact ⟨k + 1, rfl, hlt, by rw [HQ.out], by go_num, ⟨by rw [HS2.out, HG.out, HY.out]; rfl⟩, rfl⟩
        · have a3 : decide ((256 : Int) ≤ S) = false := decide_eq_false (Int.not_le.2 t0)
          have a4 : bits .or .i64 S 256 = S + 256 := or_add 8 S (by decide) s0 t0
          have HQ := Aside0.mk (show tagSum (bytesOf s) (k + 1) = S + 256 from HU.out)
          clear t0 s0 ha hb
          go_wp2
          go_roundg (s.size + 1 - (k + 1))
          case measure => omega
          case rel => exact ⟨k + 1, rfl, hlt, by rw [HQ.out], by go_num, ⟨by rw [HS2.out, HG.out, HY.out]; rfl⟩, rfl⟩
        · have a3 : decide ((512 : Int) ≤ S) = false := decide_eq_false (Int.not_le.2 t0)
          have a4 : bits .or .i64 S 512 = S + 512 := or_add 9 S (by decide) s0 t0
          have HQ := Aside0.mk (show tagSum (bytesOf s) (k + 1) = S + 512 from HU.out)
          clear t0 s0 ha hb
          go_wp2
          go_roundg (s.size + 1 - (k + 1))
          case measure => omega
          case rel => exact ⟨k + 1, rfl, hlt, by rw [HQ.out], by go_num, ⟨by rw [HS2.out, HG.out, HY.out]; rfl⟩, rfl⟩
        · have a3 : decide ((1024 : Int) ≤ S) = false := decide_eq_false (Int.not_le.2 t0)
          have a4 : bits .or .i64 S 1024 = S + 1024 := or_add 10 S (by decide) s0 t0
          have HQ := Aside0.mk (show tagSum (bytesOf s) (k + 1) = S + 1024 from HU.out)
          clear t0 s0 ha hb
          go_wp2
          go_roundg (s.size + 1 - (k + 1))
          case measure => omega
          case rel => exact ⟨k + 1, rfl, hlt, by rw [HQ.out], by go_num, ⟨by rw [HS2.out, HG.out, HY.out]; rfl⟩, rfl⟩
        · have a3 : decide ((2048 : Int) ≤ S) = false := decide_eq_false (Int.not_le.2 t0)
          have a4 : bits .or .i64 S 2048 = S + 2048 := or_add 11 S (by decide) s0 t0
          have HQ := Aside0.mk (show tagSum (bytesOf s) (k + 1) = S + 2048 from HU.out)
          clear t0 s0 ha hb
          go_wp2
          go_roundg (s.size + 1 - (k + 1))
          case measure => omega
          case rel => exact ⟨k + 1, rfl, hlt, by rw [HQ.out], by go_num, ⟨by rw [HS2.out, HG.out, HY.out]; rfl⟩, rfl⟩
        · have a3 : decide ((4096 : Int) ≤ S) = false := decide_eq_false (Int.not_le.2 t0)
          have a4 : bits .or .i64 S 4096 = S + 4096 := or_add 12 S (by decide) s0 t0
          have HQ := Aside0.mk (show tagSum (bytesOf s) (k + 1) = S + 4096 from HU.out)
          clear t0 s0 ha hb
          go_wp2
          go_roundg (s.size + 1 - (k + 1))
          case measure => omega
          case rel => exact ⟨k + 1, rfl, hlt, by rw [HQ.out], by go_num, ⟨by rw [HS2.out, HG.out, HY.out]; rfl⟩, rfl⟩
        · have a3 : decide ((8192 : Int) ≤ S) = false := decide_eq_false (Int.not_le.2 t0)
          have a4 : bits .or .i64 S 8192 = S + 8192 := or_add 13 S (by decide) s0 t0
          have HQ := Aside0.mk (show tagSum (bytesOf s) (k + 1) = S + 8192 from HU.out)
          clear t0 s0 ha hb
          go_wp2
          go_roundg (s.size + 1 - (k + 1))
          case measure => omega
          case rel => exact ⟨k + 1, rfl, hlt, by rw [HQ.out], by go_num, ⟨by rw [HS2.out, HG.out, HY.out]; rfl⟩, rfl⟩
        · have a3 : decide ((16384 : Int) ≤ S) = false := decide_eq_false (Int.not_le.2 t0)
          have a4 : bits .or .i64 S 16384 = S + 16384 := or_add 14 S (by decide) s0 t0
          have HQ := Aside0.mk (show tagSum (bytesOf s) (k + 1) = S + 16384 from HU.out)
          clear t0 s0 ha hb
          go_wp2
          go_roundg (s.size + 1 - (k + 1))
          case measure => omega
          case rel => exact ⟨k + 1, rfl, hlt, by rw [HQ.out], by go_num, ⟨by rw [HS2.out, HG.out, HY.out]; rfl⟩, rfl⟩
        · have a3 : decide ((32768 : Int) ≤ S) = false := decide_eq_false (Int.not_le.2 t0)
          have a4 : bits .or .i64 S 32768 = S + 32768 := or_add 15 S (by decide) s0 t0
          have HQ := Aside0.mk (show tagSum (bytesOf s) (k + 1) = S + 32768 from HU.out)
          clear t0 s0 ha hb
          go_wp2
          go_roundg (s.size + 1 - (k + 1))
          case measure => omega
          case rel => exact ⟨k + 1, rfl, hlt, by rw [HQ.out], by go_num, ⟨by rw [HS2.out, HG.out, HY.out]; rfl⟩, rfl⟩
    · have hke : s.size = k := by omega
      subst hke
      have HV := Aside0.mk (show tagOk (bytesOf s) = decide (0 < s.size) by have h := tagOk_all HNE.out (by rw [HL.out]; exact HG.out); rw [h, HL.out])
      have HLL := Aside0.mk (show tagSum (bytesOf s) s.size = tagSum (bytesOf s) (bytesOf s).length by rw [HL.out])
      obtain ⟨q, j1, j2⟩ := HF2.out
      obtain ⟨x1, x2⟩ := lay (Below.refl _ _) j1
      clear j1 j2
      cases frm with
      | true =>
        go_wp2
        go_ret
        exact ⟨_, rfl, fun _ => HLL.out, by simpa using HF2.out.set true, HT2.out.trans (Tch.set rfl)⟩
      | false =>
        have h0 := HH0.out
        rcases Nat.eq_zero_or_pos s.size with hz0 | hz0
        · rw [decide_eq_true (show bytesOf s = ofU [] from List.eq_nil_of_length_eq_zero (by rw [HL.out, hz0]))] at h0
          have HZ0 := Aside0.mk hz0; clear hz0
          go_wp2
          go_ret
          exact ⟨_, rfl, fun _ => HLL.out, by rw [HV.out, decide_eq_false (by rw [HZ0.out]; decide)]; simpa using HF2.out.set true, HT2.out.trans (Tch.set rfl)⟩
        · rw [decide_eq_false (show ¬ bytesOf s = ofU [] from fun e => by have := congrArg List.length e; rw [HL.out, ofU_lenS] at this; simp only [List.length_nil] at this; omega)] at h0
          have HZ0 := Aside0.mk hz0; clear hz0
          go_wp2
          go_ret
          exact ⟨_, rfl, fun _ => HLL.out, by rw [HV.out, decide_eq_true HZ0.out]; simpa using HF2.out.set false, HT2.out.trans (Tch.set rfl)⟩
end Go.Proofs.YtbccaabaplbmhaaGreatDoor.L1
namespace Go.Proofs.YtbccaabaplbmhaaGreatDoor.L1
open Go.RowKit Go.Proofs.YtbccaabaplbmhaaGreatDoorW.PrintWords Go.Proofs.YtbccaabaplbmhaaGreatDoor.B
set_option linter.unusedVariables false
set_option linter.unusedSimpArgs false
attribute [local go_sem] mk_cell mk_frozen
def strAt (ss : List ByteArray) (j : Nat) : ByteArray := ss.getD j ByteArray.empty
/-- The words of a line, as strings in a block. -/
def Strs (W : World) (B : Nat) (ss : List ByteArray) : Prop := (∀ j, j < ss.length → W.cell? ⟨B, j, none⟩ = some (.string (strAt ss j))) ∧ ∀ j, (strAt ss j).size ≤ 1048576
theorem cell_size {W : World} {b o : Nat} {v : Value} (h : W.cell? ⟨b, o, none⟩ = some v) : b < W.heap.size := by
  unfold World.cell? at h
  rcases Nat.lt_or_ge b W.heap.size with h1 | h1
  · exact h1
  · simp [Array.getElem?_eq_none h1] at h
theorem tch_cell {W W1 : World} {g b o : Nat} {v : Value} (h : Tch (fun k => k = g) W W1) (hn : b ≠ g) (hc : W.cell? ⟨b, o, none⟩ = some v) : W1.cell? ⟨b, o, none⟩ = some v := by
  have := h.same b (cell_size hc) hn
  unfold World.cell? at hc ⊢
  rw [this]; exact hc
theorem Strs.tch {W W1 : World} {g B : Nat} {ss : List ByteArray} (h : Strs W B ss) (ht : Tch (fun k => k = g) W W1) (hn : B ≠ g) : Strs W1 B ss := ⟨fun j hj => tch_cell ht hn (h.1 j hj), h.2⟩
theorem Strs.below {W W1 : World} {B : Nat} {ss : List ByteArray} (h : Strs W B ss) (hb : Below W.heap.size W W1) : Strs W1 B ss := ⟨fun j hj => pw_cell_below hb (h.1 j hj), h.2⟩
theorem tch_new {S : Nat → Prop} {W W1 W2 : World} {b : Nat} (h : Tch S W W1) (hw : Tch (fun k => k = b) W1 W2) (hb : W.heap.size ≤ b) : Tch S W W2 :=
  ⟨Nat.le_trans h.size hw.size, fun k hk hs => (hw.same k (Nat.lt_of_lt_of_le hk h.size) (by intro e; omega)).trans (h.same k hk hs), fun w0 h0 hB => hw.below w0 (fun k hk => by have := hB.size; omega) (h.below w0 h0 hB)⟩
def wordsOf (ss : List ByteArray) : List (List Int) := ss.map bytesOf
theorem wordsOf_at (ss : List ByteArray) (j : Nat) : (wordsOf ss).getD j [] = bytesOf (strAt ss j) := by
  unfold wordsOf strAt
  rw [List.getD_eq_getElem?_getD, List.getD_eq_getElem?_getD, List.getElem?_map]
  cases ss[j]? with
  | none => rfl
  | some s => rfl
def five (fs : List (List Int)) (i : Nat) : Bool := isNum (fs.getD i []) && isNum (fs.getD (i + 1) []) && isNum (fs.getD (i + 2) []) && isNum (fs.getD (i + 3) []) && isNum (fs.getD (i + 4) [])
set_option maxRecDepth 100000 in
set_option maxHeartbeats 4000000 in
theorem impl_fplace (w0 w : World) (hG : Gl w0) (hB : Below w0.heap.size w0 w) (g B i m : Nat) (hg : w0.heap.size ≤ g) (hBg : B ≠ g) (frm : Bool) (ss : List ByteArray) (hF : FAt w g B i (m + 5) frm) (hs : Strs w B ss) (hi : i + 5 ≤ ss.length) :
    Calls Tryz.prog 51 #[.pointer (some ⟨g, 0, none⟩)] w fun e w' => ∃ q : Place, e = .returned (.agg #[.int .i64 q.x, .int .i64 q.y, .int .i64 q.o, .int .i64 q.c, .int .i64 q.h]) ∧ (five (wordsOf ss) i = true → q = placeOf (wordsOf ss) i) ∧ FAt w' g B (i + 5) m (frm || !five (wordsOf ss) i) ∧ Tch (fun k => k = g) w w' := by
  have HGL := Aside0.mk hG; have HGE := Aside0.mk hg; have HNE := Aside0.mk hBg; have HI := Aside0.mk hi
  have HFV := Aside0.mk (show five (wordsOf ss) i = (isNum (bytesOf (strAt ss i)) && isNum (bytesOf (strAt ss (i + 1))) && isNum (bytesOf (strAt ss (i + 2))) && isNum (bytesOf (strAt ss (i + 3))) && isNum (bytesOf (strAt ss (i + 4)))) by unfold five; simp only [wordsOf_at])
  have HPO := Aside0.mk (show placeOf (wordsOf ss) i = ⟨numVal (bytesOf (strAt ss i)), numVal (bytesOf (strAt ss (i + 1))), numVal (bytesOf (strAt ss (i + 2))), numVal (bytesOf (strAt ss (i + 3))), numVal (bytesOf (strAt ss (i + 4)))⟩ by unfold placeOf; simp only [wordsOf_at])
  have hb0 := below_alloc (Below.refl w.heap.size w) (.cells #[.int .i64 0, .int .i64 0, .int .i64 0, .int .i64 0, .int .i64 0] 43)
  have HF0 := Aside0.mk (FAt.below (m := m + 5) hF hb0)
  have HS0 := Aside0.mk (hs.below hb0)
  have HB0 := Aside0.mk (bel_box hB (.cells #[.int .i64 0, .int .i64 0, .int .i64 0, .int .i64 0, .int .i64 0] 43))
  have HT0 := Aside0.mk (Tch.of_below (S := fun k => k = g) hb0)
  have HP0 := Aside0.mk (al_new w (.cells #[.int .i64 0, .int .i64 0, .int .i64 0, .int .i64 0, .int .i64 0] 43))
  have HGP := Aside0.mk (show g ≠ w.heap.size from fun e => by obtain ⟨q, h1, _⟩ := hF; have := blk_lt' h1; omega)
  clear hG hB hg hBg hi hF hs hb0
  go_enter Tryz.func51, Tryz.ntmps51
  go_wp2_with fail
  go_at_call 49
  refine (impl_number w0 _ HGL.out HB0.out g B (i) (m + 4) HGE.out (frm) (strAt ss (i)) HF0.out (HS0.out.1 (i) (by have := HI.out; omega)) (HS0.out.2 (i))).mono ?_
  rintro e w1 ⟨v0, rfl, hv0, hF, hT⟩
  have HV0 := Aside0.mk hv0; have HF1 := Aside0.mk hF; have HT1 := Aside0.mk (HT0.out.trans hT); have HB1 := Aside0.mk (hT.below w0 (fun k hk => by rw [hk]; exact HGE.out) HB0.out); have HS1 := Aside0.mk (HS0.out.tch hT HNE.out); have HP1 := Aside0.mk ((hT.same _ (blk_lt' HP0.out) (Ne.symm HGP.out)).trans HP0.out); clear hv0 hF hT
  go_wp2_with fail
  go_at_call 49
  refine (impl_number w0 _ HGL.out HB1.out g B (i + 1) (m + 3) HGE.out (frm || !isNum (bytesOf (strAt ss (i)))) (strAt ss (i + 1)) HF1.out (HS1.out.1 (i + 1) (by have := HI.out; omega)) (HS1.out.2 (i + 1))).mono ?_
  rintro e w2 ⟨v1, rfl, hv1, hF, hT⟩
  have HV1 := Aside0.mk hv1; have HF2 := Aside0.mk hF; have HT2 := Aside0.mk (HT1.out.trans hT); have HB2 := Aside0.mk (hT.below w0 (fun k hk => by rw [hk]; exact HGE.out) HB1.out); have HS2 := Aside0.mk (HS1.out.tch hT HNE.out); have HP2 := Aside0.mk ((hT.same _ (blk_lt' HP1.out) (Ne.symm HGP.out)).trans HP1.out); clear hv1 hF hT
  go_wp2_with fail
  go_at_call 49
  refine (impl_number w0 _ HGL.out HB2.out g B (i + 2) (m + 2) HGE.out ((frm || !isNum (bytesOf (strAt ss (i)))) || !isNum (bytesOf (strAt ss (i + 1)))) (strAt ss (i + 2)) HF2.out (HS2.out.1 (i + 2) (by have := HI.out; omega)) (HS2.out.2 (i + 2))).mono ?_
  rintro e w3 ⟨v2, rfl, hv2, hF, hT⟩
  have HV2 := Aside0.mk hv2; have HF3 := Aside0.mk hF; have HT3 := Aside0.mk (HT2.out.trans hT); have HB3 := Aside0.mk (hT.below w0 (fun k hk => by rw [hk]; exact HGE.out) HB2.out); have HS3 := Aside0.mk (HS2.out.tch hT HNE.out); have HP3 := Aside0.mk ((hT.same _ (blk_lt' HP2.out) (Ne.symm HGP.out)).trans HP2.out); clear hv2 hF hT
  go_wp2_with fail
  go_at_call 49
  refine (impl_number w0 _ HGL.out HB3.out g B (i + 3) (m + 1) HGE.out (((frm || !isNum (bytesOf (strAt ss (i)))) || !isNum (bytesOf (strAt ss (i + 1)))) || !isNum (bytesOf (strAt ss (i + 2)))) (strAt ss (i + 3)) HF3.out (HS3.out.1 (i + 3) (by have := HI.out; omega)) (HS3.out.2 (i + 3))).mono ?_
  rintro e w4 ⟨v3, rfl, hv3, hF, hT⟩
  have HV3 := Aside0.mk hv3; have HF4 := Aside0.mk hF; have HT4 := Aside0.mk (HT3.out.trans hT); have HB4 := Aside0.mk (hT.below w0 (fun k hk => by rw [hk]; exact HGE.out) HB3.out); have HS4 := Aside0.mk (HS3.out.tch hT HNE.out); have HP4 := Aside0.mk ((hT.same _ (blk_lt' HP3.out) (Ne.symm HGP.out)).trans HP3.out); clear hv3 hF hT
  go_wp2_with fail
  go_at_call 49
  refine (impl_number w0 _ HGL.out HB4.out g B (i + 4) (m + 0) HGE.out ((((frm || !isNum (bytesOf (strAt ss (i)))) || !isNum (bytesOf (strAt ss (i + 1)))) || !isNum (bytesOf (strAt ss (i + 2)))) || !isNum (bytesOf (strAt ss (i + 3)))) (strAt ss (i + 4)) HF4.out (HS4.out.1 (i + 4) (by have := HI.out; omega)) (HS4.out.2 (i + 4))).mono ?_
  rintro e w5 ⟨v4, rfl, hv4, hF, hT⟩
  have HV4 := Aside0.mk hv4; have HF5 := Aside0.mk hF; have HT5 := Aside0.mk (HT4.out.trans hT); have HB5 := Aside0.mk (hT.below w0 (fun k hk => by rw [hk]; exact HGE.out) HB4.out); have HS5 := Aside0.mk (HS4.out.tch hT HNE.out); have HP5 := Aside0.mk ((hT.same _ (blk_lt' HP4.out) (Ne.symm HGP.out)).trans HP4.out); clear hv4 hF hT
  obtain ⟨p1, p2⟩ := lay (Below.refl _ _) HP5.out
  go_wp2_with ((with_reducible refine gate_store (t := 43) (p := 2) rfl ?_); refine wpList_putAll rfl rfl _ _ _ rfl (g := w.heap.size) [.int .i64 v0, .int .i64 v1, .int .i64 v2, .int .i64 v3, .int .i64 v4] rfl rfl (by kernel_rfl) (List.all_eq_true.1 (show List.all [.int .i64 v0, .int .i64 v1, .int .i64 v2, .int .i64 v3, .int .i64 v4] Value.oneCell' = true from rfl)) HP5.out rfl ?_; intro w6 hX hT hz; clear hz p1 p2; have HX := Aside0.mk hX; have HT6 := Aside0.mk (tch_new HT5.out hT (Nat.le_refl _)); have HF6 := Aside0.mk (show FAt w6 g B (i + 5) m (((((frm || !isNum (bytesOf (strAt ss (i)))) || !isNum (bytesOf (strAt ss (i + 1)))) || !isNum (bytesOf (strAt ss (i + 2)))) || !isNum (bytesOf (strAt ss (i + 3)))) || !isNum (bytesOf (strAt ss (i + 4)))) from by obtain ⟨q, h1, h2⟩ := HF5.out; exact ⟨q, (hT.same g (blk_lt' h1) HGP.out).trans h1, h2⟩); clear hX hT)
  refine bodyPost_ret (results_cell Tryz.results51 rfl HX.out Tryz.underlying43 rfl (by kernel_rfl)) rfl ?_
  refine ⟨⟨v0, v1, v2, v3, v4⟩, rfl, fun h => ?_, ?_, HT6.out⟩
  · rw [HFV.out] at h
    simp only [Bool.and_eq_true] at h
    rw [HPO.out, HV0.out h.1.1.1.1, HV1.out h.1.1.1.2, HV2.out h.1.1.2, HV3.out h.1.2, HV4.out h.2]
  · have h := HF6.out
    rw [HFV.out]
    generalize isNum (bytesOf (strAt ss i)) = b0 at h ⊢
    generalize isNum (bytesOf (strAt ss (i + 1))) = b1 at h ⊢
    generalize isNum (bytesOf (strAt ss (i + 2))) = b2 at h ⊢
    generalize isNum (bytesOf (strAt ss (i + 3))) = b3 at h ⊢
    generalize isNum (bytesOf (strAt ss (i + 4))) = b4 at h ⊢
    clear HFV HPO HV0 HV1 HV2 HV3 HV4 HF0 HF1 HF2 HF3 HF4 HF5 HF6
    cases frm <;> cases b0 <;> cases b1 <;> cases b2 <;> cases b3 <;> cases b4 <;> exact h
end Go.Proofs.YtbccaabaplbmhaaGreatDoor.L1
namespace Go.Proofs.YtbccaabaplbmhaaGreatDoor.L1
open Go.RowKit Go.Proofs.YtbccaabaplbmhaaGreatDoorW.PrintWords Go.Proofs.YtbccaabaplbmhaaGreatDoor.B
set_option linter.unusedVariables false
set_option linter.unusedSimpArgs false
attribute [local go_sem] mk_cell mk_frozen
theorem own_cells {α : Type} {d : Kd α} {e base : Nat} {W : World} {ok : Nat → Prop} {v : Value} {xs : List α} (h : d.R e W base ok v xs) : ∀ i, v.ownBlock = some i → ∃ (cs : Array Value) (fr : Nat × Nat), W.heap[i]? = some (Obj.cells cs e fr) := fun i e => by
  obtain ⟨inner, ho⟩ := Kd.R_own h
  obtain ⟨cells, hc⟩ := own_typed ho i e
  exact ⟨cells, _, hc⟩
theorem box_apart {α : Type} {d : Kd α} {e base : Nat} {W W1 : World} {ok : Nat → Prop} {v : Value} {xs : List α} {b : Nat} {cs : Array Value} {T : TypeId} (h : d.R e W base ok v xs) (hg : W.grownBy W1 v.ownBlock) (hb : W.heap[b]? = some (.cells cs T (0, 0))) (hne : e ≠ T) : W1.heap[b]? = some (.cells cs T (0, 0)) := (hg.block b (blk_lt' hb) (Kd.R_ne h hb hne)).trans hb
theorem R_fresh {α : Type} {d : Kd α} {e base b : Nat} {W W1 : World} {ok : Nat → Prop} {v : Value} {xs : List α} (h : d.R e W base ok v xs) (hb : Below W.heap.size W W1) (hlo : W.heap.size ≤ b) : d.R e W1 base (fun k => k ≠ b) v xs :=
  Kd.R_mono (Kd.R_below (Kd.R_bound h) hb) fun k hk he => by have := hk.2.2.1; omega
theorem R_miss {α : Type} {d : Kd α} {e base b : Nat} {W W1 : World} {v : Value} {xs : List α} (h : d.R e W base (fun k => k ≠ b) v xs) (ht : Tch (fun k => k = b) W W1) : d.R e W1 base (fun _ => True) v xs :=
  Kd.R_mono (Kd.R_step h fun k ho hk => ht.same k hk ho) fun _ _ => trivial
section
variable (w : World)
end
end Go.Proofs.YtbccaabaplbmhaaGreatDoor.L1
namespace Go.Proofs.YtbccaabaplbmhaaGreatDoor.L1
open Go.RowKit Go.Proofs.YtbccaabaplbmhaaGreatDoorW.PrintWords Go.Proofs.YtbccaabaplbmhaaGreatDoor.B
set_option linter.unusedVariables false
set_option linter.unusedSimpArgs false
attribute [local go_sem] mk_cell mk_frozen
section
variable (w : World)
end
end Go.Proofs.YtbccaabaplbmhaaGreatDoor.L1
namespace Go.Proofs.YtbccaabaplbmhaaGreatDoor.L1
open Go.RowKit Go.Proofs.YtbccaabaplbmhaaGreatDoorW.PrintWords Go.Proofs.YtbccaabaplbmhaaGreatDoor.B
set_option linter.unusedVariables false
set_option linter.unusedSimpArgs false
attribute [local go_sem] mk_cell mk_frozen
section
variable (w : World)
end
end Go.Proofs.YtbccaabaplbmhaaGreatDoor.L1
namespace Go.Proofs.YtbccaabaplbmhaaGreatDoor.L1
open Go.RowKit Go.Proofs.YtbccaabaplbmhaaGreatDoorW.PrintWords Go.Proofs.YtbccaabaplbmhaaGreatDoor.B
set_option linter.unusedVariables false
set_option linter.unusedSimpArgs false
attribute [local go_sem] mk_cell mk_frozen
section
variable (w : World)
end
end Go.Proofs.YtbccaabaplbmhaaGreatDoor.L1
namespace Go.Proofs.YtbccaabaplbmhaaGreatDoor.L1
open Go.RowKit Go.Proofs.YtbccaabaplbmhaaGreatDoorW.PrintWords Go.Proofs.YtbccaabaplbmhaaGreatDoor.B
set_option linter.unusedVariables false
set_option linter.unusedSimpArgs false
attribute [local go_sem] mk_cell mk_frozen
def Inst.tiny (x : Inst) : Prop := x.vs.length ≤ 64 ∧ x.qs.length ≤ 1000 ∧ x.rs.length ≤ 4000
theorem lineP_tiny {x : Inst} (h : x.tiny) (line : List Int) : (lineP x line).2.tiny := by
  obtain ⟨h0, h1, h2⟩ := h
  unfold lineP lineW
  split
  · exact ⟨h0, h1, h2⟩
  split
  · exact ⟨h0, h1, h2⟩
  split
  · exact ⟨h0, h1, h2⟩
  split
  · exact ⟨h0, h1, h2⟩
  split
  · unfold addVeh
    split
    · exact ⟨h0, h1, h2⟩
    split
    · exact ⟨h0, h1, h2⟩
    · exact ⟨by show (x.vs ++ _).length ≤ 64; rw [List.length_append, List.length_singleton]; omega, h1, h2⟩
  split
  · unfold addReq
    split
    · exact ⟨h0, h1, h2⟩
    split
    · exact ⟨h0, h1, h2⟩
    · exact ⟨h0, by show (x.qs ++ _).length ≤ 1000; rw [List.length_append, List.length_singleton]; omega, h2⟩
  · unfold addRoad
    split
    · exact ⟨h0, h1, h2⟩
    split
    · exact ⟨h0, h1, h2⟩
    split
    · exact ⟨h0, h1, h2⟩
    · exact ⟨h0, h1, by show (x.rs ++ _).length ≤ 4000; rw [List.length_append, List.length_singleton]; omega⟩
theorem kindOf_cases (f : List Int) : kindOf f = 0 ∨ kindOf f = 1 ∨ kindOf f = 2 ∨ kindOf f = 3 := by
  unfold kindOf
  split
  · exact Or.inr (Or.inl rfl)
  split
  · exact Or.inr (Or.inr (Or.inl rfl))
  split
  · exact Or.inr (Or.inr (Or.inr rfl))
  · exact Or.inl rfl
structure IRes where (err line : Int) (inst : Inst)
def noInst : Inst := ⟨[], [], []⟩
/-- What the lines ls add to the instance x, behind i lines. -/
def parseFrom (x : Inst) (i : Nat) : List (List Int) → IRes
  | [] => ⟨0, 0, x⟩
  | [l] => if l.length = 0 then ⟨0, 0, x⟩ else ⟨2, i + 1, noInst⟩
  | l :: m :: ls => if (lineP x l).1 = 0 then parseFrom (lineP x l).2 (i + 1) (m :: ls) else ⟨(lineP x l).1, i + 1, noInst⟩
def parseP (bs : List Int) : IRes := if 300000 < bs.length then ⟨1, 0, noInst⟩ else parseFrom noInst 0 (pieces 10 bs)
theorem parseFrom_cons {x : Inst} {i : Nat} {l : List Int} {t : List (List Int)} (h : t ≠ []) : parseFrom x i (l :: t) = if (lineP x l).1 = 0 then parseFrom (lineP x l).2 (i + 1) t else ⟨(lineP x l).1, i + 1, noInst⟩ := by
  cases t with
  | nil => exact absurd rfl h
  | cons m t => rfl
/-- The result's rows, each of the call's own. -/
def OwnR (W : World) (base : Nat) (u : Value) (r : IRes) : Prop := ∃ v0 v1 v2, u = .agg #[.int .i64 r.err, .int .i64 r.line, v0, v1, v2] ∧ kVeh.R 45 W base (fun _ => True) v0 r.inst.vs ∧ kReq.R 48 W base (fun _ => True) v1 r.inst.qs ∧ kRoad.R 51 W base (fun _ => True) v2 r.inst.rs
theorem OwnR.none {W : World} {base : Nat} {e l : Int} : OwnR W base (.agg #[.int .i64 e, .int .i64 l, .slice none 0 0, .slice none 0 0, .slice none 0 0]) ⟨e, l, noInst⟩ := ⟨_, _, _, rfl, Kd.R_nil _ _ _ _ _, Kd.R_nil _ _ _ _ _, Kd.R_nil _ _ _ _ _⟩
section
variable (w : World)
end
end Go.Proofs.YtbccaabaplbmhaaGreatDoor.L1
namespace Go.Proofs.YtbccaabaplbmhaaGreatDoor.L1
open Go.RowKit Go.Proofs.YtbccaabaplbmhaaGreatDoorW.PrintWords Go.Proofs.YtbccaabaplbmhaaGreatDoor.B
set_option linter.unusedVariables false
set_option linter.unusedSimpArgs false
attribute [local go_sem] mk_cell mk_frozen
theorem str_eq' (s : ByteArray) (ws : List UInt8) : (ws == s.toList) = decide (bytesOf s = ofU ws) := by
  rw [← str_eq]; exact BEq.comm
/-- The kind of the lines so far, as the program numbers it. -/
def kindNo (x : Inst) : Int := if 0 < x.rs.length then 2 else if 0 < x.qs.length then 1 else 0
theorem tch_row {S : Nat → Prop} {W W1 : World} {row : Option Nat} (hg : W.grownBy W1 row) (h : ∀ k, row = some k → S k) (hz : W.heap.size ≤ W1.heap.size) : Tch S W W1 :=
  ⟨hz, fun k hk hn => hg.block k hk (fun e => hn (h k e.symm)), fun w0 h0 hb => pw_below_grown hb row hb.size hg (fun k hk => h0 k (h k hk))⟩
theorem tch_at {S : Nat → Prop} {W W1 : World} {k : Nat} {o : Obj} (h : Tch S W W1) (hn : ¬ S k) (hb : W.heap[k]? = some o) : W1.heap[k]? = some o := (h.same k (blk_lt' hb) hn).trans hb
/-- What a line's reader leaves. -/
def LineEnd (w w0 : World) (gi gk : Nat) (v0 v1 v2 : Value) (p : Int × Inst) (e : Ending) (w' : World) : Prop :=
  ((p.1 = 0 ∧ e = .returned .nilIface ∧ w'.heap[gk]? = some (.cells #[.int .i64 (kindNo p.2)] 3 (0, 0)) ∧ ∃ u0 u1 u2, w'.heap[gi]? = some (.cells #[u0, u1, u2] 27 (0, 0)) ∧ kVeh.R 45 w' w0.heap.size (fun _ => True) u0 p.2.vs ∧ kReq.R 48 w' w0.heap.size (fun _ => True) u1 p.2.qs ∧ kRoad.R 51 w' w0.heap.size (fun _ => True) u2 p.2.rs) ∨ (p.1 ≠ 0 ∧ e = .returned (.iface 65 (.agg #[.int .i64 p.1])))) ∧
  Tch (fun k => k = gi ∨ k = gk ∨ some k = v0.ownBlock ∨ some k = v1.ownBlock ∨ some k = v2.ownBlock) w w'
theorem impl_split (w0 w : World) (hG : Gl w0) (hB : Below w0.heap.size w0 w) (s : ByteArray) (hz : s.size ≤ 1048576) : Calls Tryz.prog 47 #[.string s, .string ⟨#[32]⟩] w fun e w' => ∃ (ss : List ByteArray) (n : Nat), e = .returned (.slice (some ⟨w.heap.size, 0, none⟩) (n + 1) (n + 1)) ∧ ss.length = n + 1 ∧ n ≤ 1048576 ∧ wordsOf ss = pieces 32 (bytesOf s) ∧ Strs w' w.heap.size ss ∧ Below w.heap.size w w' := by
  obtain ⟨m, hm⟩ := hG.max
  refine (Tryz.strings_Split s ⟨#[32]⟩ m w (by omega) (pw_cell_below hB hm) (by decide)).mono ?_
  rintro e w' ⟨rfl, rfl⟩
  have hw : wordsOf (Lib.splitB ⟨#[32]⟩ 0 (Lib.countB s ⟨#[32]⟩) s) = pieces 32 (bytesOf s) := split_bytes s 32
  have hl : (Lib.splitB ⟨#[32]⟩ 0 (Lib.countB s ⟨#[32]⟩) s).length = Lib.countB s ⟨#[32]⟩ + 1 := Lib.splitB_all ⟨#[32]⟩ (by decide) 0 _ s rfl
  have hT : Tame (bytesOf s) := ⟨by rw [bytesOf_len]; exact hz, bytesOf_bytes s⟩
  have hn : Lib.countB s ⟨#[32]⟩ ≤ 1048576 := by
    have h1 := pieces_len 32 (bytesOf s)
    rw [← hw, bytesOf_len] at h1
    unfold wordsOf at h1
    rw [List.length_map, hl] at h1
    omega
  generalize Lib.splitB ⟨#[32]⟩ 0 (Lib.countB s ⟨#[32]⟩) s = ss at hw hl
  refine ⟨ss, _, rfl, hl, hn, hw, ⟨fun j hj => ?_, fun j => ?_⟩, below_alloc (Below.refl _ _) _⟩
  · rw [Go.Joins.cell_of_block (al_new w _)]
    unfold strAt
    simp [hj]
  · have h1 := (hT.piece (sep := 32) j).1
    rw [← hw, wordsOf_at, bytesOf_len] at h1
    exact h1
theorem form1 (fs : List (List Int)) : allI 8 (formAt 1 fs) = (isNum (fs.getD 1 []) && tagOk (fs.getD 2 []) && five fs 3) := by
  unfold allI five
  rw [show List.range 8 = [0, 1, 2, 3, 4, 5, 6, 7] from rfl]
  simp only [List.all_cons, List.all_nil, formAt]
  simp [Bool.and_assoc]
theorem form2 (fs : List (List Int)) : allI 13 (formAt 2 fs) = (isNum (fs.getD 1 []) && tagOk (fs.getD 2 []) && five fs 3 && five fs 8) := by
  unfold allI five
  rw [show List.range 13 = [0, 1, 2, 3, 4, 5, 6, 7, 8, 9, 10, 11, 12] from rfl]
  simp only [List.all_cons, List.all_nil, formAt]
  simp [Bool.and_assoc]
theorem form3 (fs : List (List Int)) : allI 4 (formAt 3 fs) = (isNum (fs.getD 1 []) && isNum (fs.getD 2 []) && isNum (fs.getD 3 [])) := by
  unfold allI
  rw [show List.range 4 = [0, 1, 2, 3] from rfl]
  simp only [List.all_cons, List.all_nil, formAt]
  simp [Bool.and_assoc]
theorem lineW_form {x : Inst} {fs : List (List Int)} {K : Int} {r : Int × Inst} (h0 : K ≠ 0) (hO : ¬((0 < x.rs.length ∧ K < 3) ∨ (0 < x.qs.length ∧ K < 2))) (hn : fs.length = wantOf K) (hr : (if K = 1 then addVeh x (vehOf fs) else if K = 2 then addReq x (reqOf fs) else addRoad x (roadOf fs)) = r) : lineW x fs K = if allI fs.length (formAt K fs) = false then (6, x) else r := by
  unfold lineW
  rw [if_neg h0, if_neg hO, if_neg (fun h => h hn), hr]
end Go.Proofs.YtbccaabaplbmhaaGreatDoor.L1
namespace Go.Proofs.YtbccaabaplbmhaaGreatDoor.L1
open Go.RowKit Go.Proofs.YtbccaabaplbmhaaGreatDoorW.PrintWords Go.Proofs.YtbccaabaplbmhaaGreatDoor.B
set_option linter.unusedVariables false
set_option linter.unusedSimpArgs false
attribute [local go_sem] mk_cell mk_frozen
def vehD (bs : List Int) (s : Cu) : Veh × Cu := bnd (belowD bs 16 s) fun a s1 => bnd (belowD bs 16 s1) fun k s2 => bnd (tagSetD bs s2) fun m s3 => bnd (placeD bs s3) fun p s4 => (⟨wrap64 (6 + a), bits .or .i64 k m, p⟩, s4)
def reqD (bs : List Int) (s : Cu) : Req × Cu := bnd (belowD bs 9 s) fun a s1 => bnd (tagSetD bs s1) fun t s2 => bnd (placeD bs s2) fun p s3 => bnd (placeD bs s3) fun q s4 => (⟨a, t, p, q⟩, s4)
def manyD {α : Type} (f : Cu → α × Cu) : Nat → List α → Cu → List α × Cu
  | 0, l, s => (l, s)
  | n + 1, l, s => bnd (f s) fun v s' => manyD f n (l ++ [v]) s'
def wrapD (n a b : Int) : Int × Int := if n ≤ b then (wrap64 (wrap64 (a + 1) + wrap64 ((wrap64 (b.tdiv n)).tdiv 2)), b.tmod n) else (a, b)
def roadsD (bs : List Int) (n : Int) : Nat → Int → Int → List Road → Cu → List Road × Cu
  | 0, _, _, l, s => (l, s)
  | k + 1, a, b, l, s => bnd (belowD bs n s) fun z s1 =>
    if (wrapD n a (wrap64 (wrap64 (b + 1) + z))).1 ≠ (wrapD n a (wrap64 (wrap64 (b + 1) + z))).2 ∧ (wrapD n a (wrap64 (wrap64 (b + 1) + z))).1 < n then
      bnd (belowD bs 40 s1) fun t s2 => roadsD bs n k (wrapD n a (wrap64 (wrap64 (b + 1) + z))).1 (wrapD n a (wrap64 (wrap64 (b + 1) + z))).2 (l ++ [⟨(wrapD n a (wrap64 (wrap64 (b + 1) + z))).1, (wrapD n a (wrap64 (wrap64 (b + 1) + z))).2, t⟩]) s2
    else roadsD bs n k (wrapD n a (wrap64 (wrap64 (b + 1) + z))).1 (wrapD n a (wrap64 (wrap64 (b + 1) + z))).2 l s1
def twoD (bs : List Int) (n : Int) (s : Cu) : Bool × Cu := if 2 ≤ n then onceD bs 2 s else (false, s)
def someRoadsD (bs : List Int) (n : Int) (s : Cu) : List Road × Cu := bnd (twoD bs n s) fun b s1 => if b = true then bnd (rangeD bs 1 4 s1) fun k s2 => roadsD bs n k.toNat 0 (-1) [] s2 else ([], s1)
def lim0D (bs : List Int) (nv : Int) (vs : List Veh) (s : Cu) : List Veh × Cu := bnd (onceD bs 10 s) fun b s1 =>
  if b = true ∧ 0 < nv then bnd (belowD bs nv s1) fun j s2 => bnd (limD bs (vs.getD j.toNat zV).home s2) fun p s3 => (vs.set j.toNat ⟨(vs.getD j.toNat zV).room, (vs.getD j.toNat zV).skills, p⟩, s3) else (vs, s1)
def lim1D (bs : List Int) (nr : Int) (qs : List Req) (s : Cu) : List Req × Cu := bnd (onceD bs 10 s) fun b s1 =>
  if b = true ∧ 0 < nr then bnd (belowD bs nr s1) fun j s2 => bnd (limD bs (qs.getD j.toNat zQ).from_ s2) fun p s3 => (qs.set j.toNat ⟨(qs.getD j.toNat zQ).size, (qs.getD j.toNat zQ).tags, p, (qs.getD j.toNat zQ).to_⟩, s3) else (qs, s1)
def nrD (bs : List Int) (b : Bool) (rs : Int) (s : Cu) : Int × Cu := if b = true then rangeD bs 1 rs s else (rs, s)
def zeroD (b : Bool) (n : Int) : Int := if b = true then 0 else n
def instD (bs : List Int) (rs : Int) (s : Cu) : Inst × Cu :=
  bnd (rangeD bs 1 3 s) fun nv s1 => bnd (onceD bs 2 s1) fun b s2 => bnd (nrD bs b rs s2) fun nr s3 => bnd (onceD bs 25 s3) fun b2 s4 => bnd (onceD bs 25 s4) fun b3 s5 =>
    bnd (manyD (vehD bs) (zeroD b2 nv).toNat [] s5) fun vs s6 => bnd (manyD (reqD bs) (zeroD b3 nr).toNat [] s6) fun qs s7 => bnd (someRoadsD bs (zeroD b2 nv + 2 * zeroD b3 nr) s7) fun rs s8 =>
    bnd (lim0D bs (zeroD b2 nv) vs s8) fun vs' s9 => bnd (lim1D bs (zeroD b3 nr) qs s9) fun qs' s10 => (⟨vs', qs', rs⟩, s10)
theorem manyD_len {α : Type} (f : Cu → α × Cu) : ∀ (n : Nat) (l : List α) (s : Cu), (manyD f n l s).1.length = l.length + n
  | 0, l, s => rfl
  | n + 1, l, s => by
    show (manyD f n (l ++ [(f s).1]) (f s).2).1.length = _
    rw [manyD_len f n, List.length_append, List.length_singleton]
    omega
section
variable {w0 w W W' : World} {g : Nat} {A : Option Addr} {c : Nat} {bs : List Int} {s s' : Cu} {L : List (Nat × Obj)}
theorem Tch.grows {S : Nat → Prop} {w W W1 : World} {row : Option Nat} (h : Tch S w W) (hg : W.grownBy W1 row) (hr : ∀ k, row = some k → w.heap.size ≤ k) : Tch S w W1 :=
  ⟨Nat.le_trans h.size hg.size, fun k hk hn => (hg.block k (Nat.lt_of_lt_of_le hk h.size) (fun e => by have := hr k e.symm; omega)).trans (h.same k hk hn), fun w1 h1 hB => pw_below_grown (h.below w1 h1 hB) row (h.below w1 h1 hB).size hg (fun k hk => by have := hr k hk; have := hB.size; omega)⟩
theorem CurAt.grown {row : Option Nat} (h : CurAt w0 g A c bs s W) (hg : W.grownBy W' row) (hr : ∀ k, row = some k → w0.heap.size ≤ k ∧ k ≠ g) : CurAt w0 g A c bs s W' :=
  ⟨(hg.block g h.lt (fun e => (hr g e.symm).2 rfl)).trans h.cur, pw_below_grown h.below row h.below.size hg (fun k hk => (hr k hk).1), h.ge, h.row, h.len⟩
theorem Fr.grown {row : Option Nat} (h : Fr w0 w g A c bs s L W) (hg : W.grownBy W' row) (hr : ∀ k, row = some k → w.heap.size ≤ k) (hL : ∀ p ∈ L, some p.1 ≠ row) : Fr w0 w g A c bs s L W' :=
  ⟨h.cur.grown hg (fun k hk => ⟨Nat.le_trans h.le (hr k hk), by have := hr k hk; have := h.lt; omega⟩), h.tch.grows hg hr, fun p hp => (hg.block p.1 (blk_lt' (h.blk p hp)) (fun e => hL p hp e)).trans (h.blk p hp), h.own, h.nd, h.lt, h.le⟩
theorem Fr.less (h : Fr w0 w g A c bs s L W) (n : Nat) : Fr w0 w g A c bs s (L.drop n) W :=
  ⟨h.cur, h.tch, fun p hp => h.blk p (List.mem_of_mem_drop hp), fun p hp => h.own p (List.mem_of_mem_drop hp), h.nd.sublist (List.drop_sublist n L), h.lt, h.le⟩
theorem R_other {α : Type} {d : Kd α} {e base : Nat} {ok : Nat → Prop} {W W1 : World} {v : Value} {xs : List α} {row : Option Nat} {T' : TypeId} (h : d.R e W base ok v xs) (hg : W.grownBy W1 row) (hrow : ∀ i, row = some i → ∃ (cs : Array Value) (fr : Nat × Nat), W.heap[i]? = some (Obj.cells cs T' fr)) (hne : T' ∉ e :: d.E) : d.R e W1 base (fun _ => True) v xs := by
  refine Kd.R_mono (Kd.R_grown (Kd.R_mono (Kd.R_bound h) (ok' := fun k => some k ≠ row) ?_) hg (fun k hk => hk)) fun _ _ => trivial
  rintro k ⟨_, _, _, q, hq, cells, hc⟩ he
  obtain ⟨cs, fr, h2⟩ := hrow k he.symm
  rw [hc] at h2
  cases h2
  exact hne hq
theorem row_ty {α : Type} {d : Kd α} {e base : Nat} {ok : Nat → Prop} {W : World} {v : Value} {xs : List α} (h : d.R e W base ok v xs) : ∀ i, v.ownBlock = some i → ∃ (cs : Array Value) (fr : Nat × Nat), W.heap[i]? = some (Obj.cells cs e fr) := fun i hi => by
  obtain ⟨inner, ho⟩ := Kd.R_own h
  obtain ⟨cells, hc⟩ := own_typed ho i hi
  exact ⟨cells, _, hc⟩
/-- An instance under way: out, its box, what else lies there, its rows. -/
structure IP (w0 w : World) (g : Nat) (A : Option Addr) (c : Nat) (bs : List Int) (s : Cu) (x : Inst) (v0 v1 v2 : Value) (E : List (Nat × Obj)) (W : World) : Prop where
  fr : Fr w0 w g A c bs s (E ++ [(w.heap.size + 1, .cells #[v0, v1, v2] 27 (0, 0)), (w.heap.size, .cells #[.slice none 0 0, .slice none 0 0, .slice none 0 0] 27 (0, 0))]) W
  r0 : kVeh.R 45 W w.heap.size (fun k => ∀ p ∈ E, k ≠ p.1) v0 x.vs
  r1 : kReq.R 48 W w.heap.size (fun k => ∀ p ∈ E, k ≠ p.1) v1 x.qs
  r2 : kRoad.R 51 W w.heap.size (fun k => ∀ p ∈ E, k ≠ p.1) v2 x.rs
variable {x : Inst} {v0 v1 v2 : Value} {E : List (Nat × Obj)}
theorem IP.inn (h : IP w0 w g A c bs s x v0 v1 v2 E W) : W.heap[w.heap.size + 1]? = some (.cells #[v0, v1, v2] 27 (0, 0)) := h.fr.blk (w.heap.size + 1, .cells #[v0, v1, v2] 27 (0, 0)) (by simp)
theorem IP.out (h : IP w0 w g A c bs s x v0 v1 v2 E W) : W.heap[w.heap.size]? = some (.cells #[.slice none 0 0, .slice none 0 0, .slice none 0 0] 27 (0, 0)) := h.fr.blk (w.heap.size, .cells #[.slice none 0 0, .slice none 0 0, .slice none 0 0] 27 (0, 0)) (by simp)
theorem IP.draw (h : IP w0 w g A c bs s x v0 v1 v2 E W) (ha : After w0 g A c bs s' W W') : IP w0 w g A c bs s' x v0 v1 v2 E W' :=
  ⟨h.fr.draw ha, R_tch h.r0 ha.2 h.fr.cur.cur (by decide), R_tch h.r1 ha.2 h.fr.cur.cur (by decide), R_tch h.r2 ha.2 h.fr.cur.cur (by decide)⟩
theorem IP.on (h : IP w0 w g A c bs s x v0 v1 v2 E W) (hb : Below W.heap.size W W') : IP w0 w g A c bs s x v0 v1 v2 E W' :=
  ⟨h.fr.on hb, Kd.R_below h.r0 hb, Kd.R_below h.r1 hb, Kd.R_below h.r2 hb⟩
theorem IP.drew (h : IP w0 w g A c bs s x v0 v1 v2 E W) (n : Nat) : IP w0 w g A c bs s x v0 v1 v2 E (W.drewN n) := h.on (pw_below_drewN (Below.refl W.heap.size W) n)
theorem R_new {α : Type} {d : Kd α} {e base : Nat} {ok : Nat → Prop} {W : World} {v : Value} {xs : List α} (h : d.R e W base ok v xs) : d.R e W base (fun k => ok k ∧ k < W.heap.size) v xs := Kd.R_mono (Kd.R_bound h) fun k hk => ⟨hk.1, hk.2.2.1⟩
theorem IP.box (h : IP w0 w g A c bs s x v0 v1 v2 E W) (o : Obj) : IP w0 w g A c bs s x v0 v1 v2 ((W.heap.size, o) :: E) (W.alloc o) := by
  have up : ∀ k, ((∀ p ∈ E, k ≠ p.1) ∧ k < W.heap.size) → ∀ p ∈ (W.heap.size, o) :: E, k ≠ p.1 := fun k hk p hp => by
    rcases List.mem_cons.1 hp with rfl | hp
    · show k ≠ W.heap.size; have := hk.2; omega
    · exact hk.1 p hp
  exact ⟨h.fr.box o, Kd.R_mono (Kd.R_alloc (R_new h.r0) o) up, Kd.R_mono (Kd.R_alloc (R_new h.r1) o) up, Kd.R_mono (Kd.R_alloc (R_new h.r2) o) up⟩
theorem R_off {α : Type} {d : Kd α} {e base : Nat} {ok : Nat → Prop} {W : World} {v : Value} {xs : List α} {b : Nat} (h : d.R e W base ok v xs) (hb : ∀ k, ok k → k ≠ b) (o : Nat) (u : Value) : d.R e (W.setCell ⟨b, o, none⟩ u) base ok v xs :=
  Kd.R_step h fun k ho hk => Below.heap_setCell W ⟨b, o, none⟩ u k (hb k ho)
/-- A cell of what else lies there. -/
theorem IP.set {b : Nat} {cs : Array Value} {T : TypeId} (h : IP w0 w g A c bs s x v0 v1 v2 ((b, .cells cs T (0, 0)) :: E) W) (o : Nat) (u : Value) : IP w0 w g A c bs s x v0 v1 v2 ((b, .cells (cs.setIfInBounds o u) T (0, 0)) :: E) (W.setCell ⟨b, o, none⟩ u) := by
  have hb : ∀ k, (∀ p ∈ (b, Obj.cells cs T (0, 0)) :: E, k ≠ p.1) → k ≠ b := fun k hk => hk _ List.mem_cons_self
  have up : ∀ k, (∀ p ∈ (b, Obj.cells cs T (0, 0)) :: E, k ≠ p.1) → ∀ p ∈ (b, Obj.cells (cs.setIfInBounds o u) T (0, 0)) :: E, k ≠ p.1 := fun k hk p hp => by
    rcases List.mem_cons.1 hp with rfl | hp
    · exact hb k hk
    · exact hk p (List.mem_cons_of_mem _ hp)
  exact ⟨h.fr.set 0 rfl o u, Kd.R_mono (R_off h.r0 hb o u) up, Kd.R_mono (R_off h.r1 hb o u) up, Kd.R_mono (R_off h.r2 hb o u) up⟩
theorem IP.mem {b : Nat} {cs : Array Value} {T : TypeId} (h : IP w0 w g A c bs s x v0 v1 v2 ((b, .cells cs T (0, 0)) :: E) W) : W.heap[b]? = some (.cells cs T (0, 0)) := h.fr.mem 0 rfl
theorem IP.drop (h : IP w0 w g A c bs s x v0 v1 v2 E W) : IP w0 w g A c bs s x v0 v1 v2 [] W := by
  refine ⟨?_, Kd.R_mono h.r0 (by simp), Kd.R_mono h.r1 (by simp), Kd.R_mono h.r2 (by simp)⟩
  have := h.fr.less E.length
  rwa [List.drop_left] at this
theorem ne_row {α : Type} {d : Kd α} {e base : Nat} {ok : Nat → Prop} {v : Value} {xs : List α} {b : Nat} {cs : Array Value} {T : TypeId} (h : d.R e W base ok v xs) (hb : W.heap[b]? = some (.cells cs T (0, 0))) (hT : T ≠ e) : some b ≠ v.ownBlock := fun e1 => by
  obtain ⟨cs', fr, e2⟩ := row_ty h b e1.symm
  rw [hb] at e2
  cases e2
  exact hT rfl
theorem base_row {α : Type} {d : Kd α} {e base : Nat} {ok : Nat → Prop} {v : Value} {xs : List α} (h : d.R e W base ok v xs) : ∀ k, v.ownBlock = some k → base ≤ k := fun k hk => Kd.R_base h k hk
/-- The box and out, when a row has grown. -/
theorem IP.apart (h : IP w0 w g A c bs s x v0 v1 v2 [] W) {α : Type} {d : Kd α} {e : Nat} {ok : Nat → Prop} {v : Value} {xs : List α} (hv : d.R e W w.heap.size ok v xs) (hT : 27 ≠ e) (hg : W.grownBy W' v.ownBlock) :
    Fr w0 w g A c bs s [(w.heap.size + 1, .cells #[v0, v1, v2] 27 (0, 0)), (w.heap.size, .cells #[.slice none 0 0, .slice none 0 0, .slice none 0 0] 27 (0, 0))] W' :=
  h.fr.grown hg (base_row hv) fun p hp => by
    simp only [List.nil_append, List.mem_cons, List.not_mem_nil, or_false] at hp
    rcases hp with rfl | rfl
    · exact ne_row hv h.inn hT
    · exact ne_row hv h.out hT
theorem IP.app0 {u : Value} {ys : List Veh} (h : IP w0 w g A c bs s x v0 v1 v2 [] W) (hr : kVeh.R 45 W' w.heap.size (fun _ => True) u ys) (hg : W.grownBy W' v0.ownBlock) : IP w0 w g A c bs s ⟨ys, x.qs, x.rs⟩ u v1 v2 [] (W'.setCell ⟨w.heap.size + 1, 0, none⟩ u) := by
  have hf := h.apart h.r0 (by decide) hg
  have q1 := R_other h.r1 hg (row_ty h.r0) (by decide); have q2 := R_other h.r2 hg (row_ty h.r0) (by decide)
  have ht := Tch.set (S := fun k => k = w.heap.size + 1) (W := W') (b := w.heap.size + 1) (o := 0) (v := u) rfl
  have hi := hf.mem 0 rfl
  exact ⟨hf.set 0 rfl 0 u, Kd.R_mono (R_tch hr ht hi (by decide)) (by simp), Kd.R_mono (R_tch q1 ht hi (by decide)) (by simp), Kd.R_mono (R_tch q2 ht hi (by decide)) (by simp)⟩
theorem IP.app1 {u : Value} {ys : List Req} (h : IP w0 w g A c bs s x v0 v1 v2 [] W) (hr : kReq.R 48 W' w.heap.size (fun _ => True) u ys) (hg : W.grownBy W' v1.ownBlock) : IP w0 w g A c bs s ⟨x.vs, ys, x.rs⟩ v0 u v2 [] (W'.setCell ⟨w.heap.size + 1, 1, none⟩ u) := by
  have hf := h.apart h.r1 (by decide) hg
  have q1 := R_other h.r0 hg (row_ty h.r1) (by decide); have q2 := R_other h.r2 hg (row_ty h.r1) (by decide)
  have ht := Tch.set (S := fun k => k = w.heap.size + 1) (W := W') (b := w.heap.size + 1) (o := 1) (v := u) rfl
  have hi := hf.mem 0 rfl
  exact ⟨hf.set 0 rfl 1 u, Kd.R_mono (R_tch q1 ht hi (by decide)) (by simp), Kd.R_mono (R_tch hr ht hi (by decide)) (by simp), Kd.R_mono (R_tch q2 ht hi (by decide)) (by simp)⟩
theorem IP.app2 {u : Value} {ys : List Road} (h : IP w0 w g A c bs s x v0 v1 v2 [] W) (hr : kRoad.R 51 W' w.heap.size (fun _ => True) u ys) (hg : W.grownBy W' v2.ownBlock) : IP w0 w g A c bs s ⟨x.vs, x.qs, ys⟩ v0 v1 u [] (W'.setCell ⟨w.heap.size + 1, 2, none⟩ u) := by
  have hf := h.apart h.r2 (by decide) hg
  have q1 := R_other h.r0 hg (row_ty h.r2) (by decide); have q2 := R_other h.r1 hg (row_ty h.r2) (by decide)
  have ht := Tch.set (S := fun k => k = w.heap.size + 1) (W := W') (b := w.heap.size + 1) (o := 2) (v := u) rfl
  have hi := hf.mem 0 rfl
  exact ⟨hf.set 0 rfl 2 u, Kd.R_mono (R_tch q1 ht hi (by decide)) (by simp), Kd.R_mono (R_tch q2 ht hi (by decide)) (by simp), Kd.R_mono (R_tch hr ht hi (by decide)) (by simp)⟩
/-- One row written in place. -/
theorem IP.put0 {ys : List Veh} (h : IP w0 w g A c bs s x v0 v1 v2 [] W) (hr : kVeh.R 45 W' w.heap.size (fun k => ∀ p ∈ ([] : List (Nat × Obj)), k ≠ p.1) v0 ys) (hg : W.grownBy W' v0.ownBlock) : IP w0 w g A c bs s ⟨ys, x.qs, x.rs⟩ v0 v1 v2 [] W' :=
  ⟨h.apart h.r0 (by decide) hg, hr, Kd.R_mono (R_other h.r1 hg (row_ty h.r0) (by decide)) (by simp), Kd.R_mono (R_other h.r2 hg (row_ty h.r0) (by decide)) (by simp)⟩
theorem IP.put1 {ys : List Req} (h : IP w0 w g A c bs s x v0 v1 v2 [] W) (hr : kReq.R 48 W' w.heap.size (fun k => ∀ p ∈ ([] : List (Nat × Obj)), k ≠ p.1) v1 ys) (hg : W.grownBy W' v1.ownBlock) : IP w0 w g A c bs s ⟨x.vs, ys, x.rs⟩ v0 v1 v2 [] W' :=
  ⟨h.apart h.r1 (by decide) hg, Kd.R_mono (R_other h.r0 hg (row_ty h.r1) (by decide)) (by simp), hr, Kd.R_mono (R_other h.r2 hg (row_ty h.r1) (by decide)) (by simp)⟩
theorem IP.put2 {ys : List Road} (h : IP w0 w g A c bs s x v0 v1 v2 [] W) (hr : kRoad.R 51 W' w.heap.size (fun k => ∀ p ∈ ([] : List (Nat × Obj)), k ≠ p.1) v2 ys) (hg : W.grownBy W' v2.ownBlock) : IP w0 w g A c bs s ⟨x.vs, x.qs, ys⟩ v0 v1 v2 [] W' :=
  ⟨h.apart h.r2 (by decide) hg, Kd.R_mono (R_other h.r0 hg (row_ty h.r2) (by decide)) (by simp), Kd.R_mono (R_other h.r1 hg (row_ty h.r2) (by decide)) (by simp), hr⟩
end
end Go.Proofs.YtbccaabaplbmhaaGreatDoor.L1
