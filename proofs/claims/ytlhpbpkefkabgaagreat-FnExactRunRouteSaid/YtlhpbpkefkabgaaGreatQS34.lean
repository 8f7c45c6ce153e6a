/- RunRoute of the program. -/
import Derived.Test.YtlhpbpkefkabgaaGreatQS33
namespace Go.Proofs.YtlhpbpkefkabgaaGreat.L1
open Go.RowKit Go.Proofs.YtlhpbpkefkabgaaGreatW.PrintWords Go.Proofs.YtlhpbpkefkabgaaGreat.B
set_option linter.unusedVariables false
set_option linter.unusedSimpArgs false
attribute [local go_sem] mk_cell mk_frozen
/-- The variable that holds the state. -/
def HeldS (W : World) (b : Nat) (s : St) : Prop := ∃ T0 e0 T1 e1 T2 e2, W.heap[b]? = some (.cells #[.int .i64 s.pos, .int .i64 s.rule, .int .i64 s.node, .int .i64 s.time, .int .i64 s.dist, .int .i64 s.load, .slice T0 s.s0.length e0, .slice T1 s.s1.length e1, .slice T2 s.s2.length e2] 49 (0, 0)) ∧ kInt.R 2 W 0 (fun _ => True) (.slice T0 s.s0.length e0) s.s0 ∧ kInt.R 2 W 0 (fun _ => True) (.slice T1 s.s1.length e1) s.s1 ∧ kInt.R 2 W 0 (fun _ => True) (.slice T2 s.s2.length e2) s.s2
section
variable (w : World)
set_option maxRecDepth 100000 in
set_option maxHeartbeats 8000000 in
theorem impl_runRoute (c : Code) (A0 : Option Addr) (c0 : Nat) (A1 : Option Addr) (c1 : Nat) (A2 : Option Addr) (c2 : Nat) (x : Inst) (B0 : Option Addr) (d0 : Nat) (B1 : Option Addr) (d1 : Nat) (B2 : Option Addr) (d2 : Nat) (kv : Nat) (hI : ReadInst w (.agg #[.slice B0 x.vs.length d0, .slice B1 x.qs.length d1, .slice B2 x.rs.length d2]) x) (hK0 : kIns.C w A0 c.b0.length c.b0) (hK1 : kIns.C w A1 c.b1.length c.b1) (hK2 : kIns.C w A2 c.b2.length c.b2) (R : Option Addr) (rc : Nat) (xs : List Int) (hr : kInt.C w R xs.length xs) (hcv : c.valid = true) (hxv : x.valid = true) (hkv : kv < x.vs.length) (hst : x.stops xs = true) (hl : xs.length ≤ 4096) :
    Calls Tryz.prog 45 #[.agg #[.int .i64 c.regs, .int .i64 c.slots, .slice A0 c.b0.length c0, .slice A1 c.b1.length c1, .slice A2 c.b2.length c2], .agg #[.slice B0 x.vs.length d0, .slice B1 x.qs.length d1, .slice B2 x.rs.length d2], .int .i64 kv, .slice R xs.length rc] w fun e w' => e = .returned (verV (finS c x kv (afterS c x kv xs))) ∧ Below w.heap.size w w' := by
  have HX := sA (And.intro hI (And.intro hK0 (And.intro hK1 (And.intro hK2 hr)))); clear hI hK0 hK1 hK2
  have HFI := sA (after_fine hcv hxv hkv hst hl)
  have HST := sA hst; clear hst
  obtain ⟨HB0, HKC0, HKI0, HKV0, HZ0⟩ := opens3 w (.cells #[.int .i64 c.regs, .int .i64 c.slots, .slice A0 c.b0.length c0, .slice A1 c.b1.length c1, .slice A2 c.b2.length c2] 41) (.cells #[.slice B0 x.vs.length d0, .slice B1 x.qs.length d1, .slice B2 x.rs.length d2] 47) (.cells #[.int .i64 0, .int .i64 0, .int .i64 0] 37)
  have HGKC := sA (show w.heap.size ≤ w.heap.size from Nat.le_add_right _ 0)
  have HGKI := sA (show w.heap.size ≤ w.heap.size + 1 from Nat.le_add_right _ 1)
  have HGKV := sA (show w.heap.size ≤ w.heap.size + 1 + 1 from Nat.le_add_right _ 2)
  have HSZ0 := sA (Nat.le_refl (((w.alloc (.cells #[.int .i64 c.regs, .int .i64 c.slots, .slice A0 c.b0.length c0, .slice A1 c.b1.length c1, .slice A2 c.b2.length c2] 41)).alloc (.cells #[.slice B0 x.vs.length d0, .slice B1 x.qs.length d1, .slice B2 x.rs.length d2] 47)).alloc (.cells #[.int .i64 0, .int .i64 0, .int .i64 0] 37)).heap.size)
  go_enter Tryz.func45, Tryz.ntmps45
  go_wp2_with fail
  go_at_call 84
  refine (impl_start _ c A0 c0 A1 c1 A2 c2 x B0 d0 B1 d1 B2 d2 kv (HX.out.1.below HB0.out) (Kd.C_below HX.out.2.1 HB0.out) hcv hxv hkv).mono ?_
  rintro e w1 ⟨t, rfl, hS, hb⟩
  have HB1 := sA (bC HB0.out hb); have HKC1 := sA (bB HKC0.out hb); have HKI1 := sA (bB HKI0.out hb); have HKV1 := sA (bB HKV0.out hb); have HSZ1 := sA (Nat.le_trans HSZ0.out hb.size); clear hb
  obtain ⟨v0, v1, v2, rfl, r0, r1, r2⟩ := hS
  obtain ⟨T0, e0, rfl⟩ := Kd.R_slice r0
  obtain ⟨T1, e1, rfl⟩ := Kd.R_slice r1
  obtain ⟨T2, e2, rfl⟩ := Kd.R_slice r2
  have hs0 : afterS c x kv (xs.take 0) = startS c x kv := rfl
  generalize startS c x kv = s at *
  have HS0 := sA hs0; clear hs0
  have HRx1 := sA r0; have HRy1 := sA r1; have HRz1 := sA r2; clear r0 r1 r2
  have HW1 := sA (Below.refl w1.heap.size w1)
  obtain ⟨kc1, kc2⟩ := lay0 HKC1.out
  obtain ⟨ki1, ki2⟩ := lay0 HKI1.out
  obtain ⟨kv1, kv2⟩ := lay0 HKV1.out
  go_wp2_with ((with_reducible refine gate_store (t := 49) (p := 9) rfl ?_); have HW2 := sA (bel_box HW1.out (.cells #[.int .i64 0, .int .i64 0, .int .i64 0, .int .i64 0, .int .i64 0, .int .i64 0, .slice none 0 0, .slice none 0 0, .slice none 0 0] 49)); have hsz := HSZ1.out; have HB2 := sA (bel_box HB1.out (.cells #[.int .i64 0, .int .i64 0, .int .i64 0, .int .i64 0, .int .i64 0, .int .i64 0, .slice none 0 0, .slice none 0 0, .slice none 0 0] 49)); have HKC2 := sA (blk_box HKC1.out (.cells #[.int .i64 0, .int .i64 0, .int .i64 0, .int .i64 0, .int .i64 0, .int .i64 0, .slice none 0 0, .slice none 0 0, .slice none 0 0] 49)); have HKI2 := sA (blk_box HKI1.out (.cells #[.int .i64 0, .int .i64 0, .int .i64 0, .int .i64 0, .int .i64 0, .int .i64 0, .slice none 0 0, .slice none 0 0, .slice none 0 0] 49)); have HKV2 := sA (blk_box HKV1.out (.cells #[.int .i64 0, .int .i64 0, .int .i64 0, .int .i64 0, .int .i64 0, .int .i64 0, .slice none 0 0, .slice none 0 0, .slice none 0 0] 49)); have HRx2 := sA (Kd.R_below HRx1.out (bA (Below.refl _ _) (.cells #[.int .i64 0, .int .i64 0, .int .i64 0, .int .i64 0, .int .i64 0, .int .i64 0, .slice none 0 0, .slice none 0 0, .slice none 0 0] 49))); have HRy2 := sA (Kd.R_below HRy1.out (bA (Below.refl _ _) (.cells #[.int .i64 0, .int .i64 0, .int .i64 0, .int .i64 0, .int .i64 0, .int .i64 0, .slice none 0 0, .slice none 0 0, .slice none 0 0] 49))); have HRz2 := sA (Kd.R_below HRz1.out (bA (Below.refl _ _) (.cells #[.int .i64 0, .int .i64 0, .int .i64 0, .int .i64 0, .int .i64 0, .int .i64 0, .slice none 0 0, .slice none 0 0, .slice none 0 0] 49))); have HSZ2 := sA (Nat.le_trans HSZ1.out (bA (Below.refl _ _) (.cells #[.int .i64 0, .int .i64 0, .int .i64 0, .int .i64 0, .int .i64 0, .int .i64 0, .slice none 0 0, .slice none 0 0, .slice none 0 0] 49)).size); have HKT2 := sA (al_new w1 (.cells #[.int .i64 0, .int .i64 0, .int .i64 0, .int .i64 0, .int .i64 0, .int .i64 0, .slice none 0 0, .slice none 0 0, .slice none 0 0] 49)); have HGKT := sA (Nat.le_trans HB1.out.size (Nat.le_refl w1.heap.size)); clear hsz; refine wpList_putAll rfl rfl _ _ _ rfl (g := w1.heap.size) [.int .i64 s.pos, .int .i64 s.rule, .int .i64 s.node, .int .i64 s.time, .int .i64 s.dist, .int .i64 s.load, .slice T0 s.s0.length e0, .slice T1 s.s1.length e1, .slice T2 s.s2.length e2] rfl rfl (by kernel_rfl) (one_all rfl) HKT2.out rfl ?_; intro w3 hX hT hz; clear hz; clear kc1 kc2 ki1 ki2 kv1 kv2; have HW3 := sA (hT.below w1 (fun b hb => by rw [hb]; exact Nat.le_refl _) HW2.out); (try simp only [List.setIfInBounds_toArray, List.set_cons_zero, List.set_cons_succ] at hX); have HB3 := sA (hT.below w (fun k hk => by rw [hk]; exact HGKT.out) HB2.out); have HKC3 := sA (tK hT HKT2.out HKC2.out (by decide)); have HKI3 := sA (tK hT HKT2.out HKI2.out (by decide)); have HKV3 := sA (tK hT HKT2.out HKV2.out (by decide)); have HRx3 := sA (row_tch HRx2.out hT HKT2.out (by decide)); have HRy3 := sA (row_tch HRy2.out hT HKT2.out (by decide)); have HRz3 := sA (row_tch HRz2.out hT HKT2.out (by decide)); have HSZ3 := sA (Nat.le_trans HSZ2.out hT.size); have HKT3 := sA hX; clear hX hT; obtain ⟨kc1, kc2⟩ := lay0 HKC3.out; obtain ⟨ki1, ki2⟩ := lay0 HKI3.out; obtain ⟨kv1, kv2⟩ := lay0 HKV3.out; obtain ⟨kt1, kt2⟩ := lay0 HKT3.out)
  clear kc1 kc2 ki1 ki2 kv1 kv2 kt1 kt2
  have HBW := HW3
  have hkt : HeldS w3 w1.heap.size (afterS c x kv (xs.take 0)) := by rw [HS0.out]; exact ⟨T0, e0, T1, e1, T2, e2, HKT3.out, HRx3.out, HRy3.out, HRz3.out⟩
  have HKT := sA hkt; clear hkt
  go_loopg [18] (xs.length + 1) (fun q v18 wr => ∃ k, q = xs.length + 1 - k ∧ k ≤ xs.length ∧ v18 = .int .i64 k ∧ Aside0 (Below w1.heap.size w1 wr) ∧ Aside0 (HeldS wr w1.heap.size (afterS c x kv (xs.take k))))
  case atStart => exact ⟨0, by omega, by omega, rfl, ⟨HBW.out⟩, HKT⟩
  case round =>
    clear HKT HBW
    obtain ⟨k, rfl, hk, rfl, HW, HT⟩ := hrel
    have hT := HT.out; clear HT
    obtain ⟨T0, e0, T1, e1, T2, e2, ht, r0, r1, r2⟩ := hT
    have HKCr := sA (bB HKC1.out HW.out); have HKIr := sA (bB HKI1.out HW.out); have HKVr := sA (bB HKV1.out HW.out); have HKTr := sA ht
    have HBr := sA (bC HB1.out HW.out); have HRR := sA (And.intro r0 (And.intro r1 r2)); clear ht r0 r1 r2
    obtain ⟨kc1, kc2⟩ := lay0 HKCr.out
    obtain ⟨ki1, ki2⟩ := lay0 HKIr.out
    obtain ⟨kv1, kv2⟩ := lay0 HKVr.out
    obtain ⟨kt1, kt2⟩ := lay0 HKTr.out
    by_cases hlt : k < xs.length
    · obtain ⟨ad, ea, za⟩ := int_at (Kd.C_below HX.out.2.2.2.2 HBr.out) hlt
      cases ea
      have hat : atI xs k = xs.getD k 0 := by unfold atI; rw [Int.toNat_natCast]
      rw [hat] at za
      have hst : x.stop (xs.getD k 0) = true := allI_iff.1 HST.out k hlt
      have hsu := afterS_succ c x kv xs hlt
      have hfi := HFI.out k (by omega)
      generalize xs.getD k 0 = y at *
      have HSU := sA hsu; have HFK := sA hfi; have HSY := sA hst; clear hsu hfi hst hat
      have hq : IntKind.i64.wrap ((k : Int) + 1) = ((k + 1 : Nat) : Int) := by rw [IntWalk.i64_in _ (by omega)]; omega
      generalize hsk : afterS c x kv (xs.take k) = sk at *
      go_wp2_with fail
      clear kc1 kc2 ki1 ki2 kv1 kv2 kt1 kt2 za hq
      go_at_call 85
      refine (impl_step _ c A0 c0 A1 c1 A2 c2 x B0 d0 B1 d1 B2 d2 kv sk T0 e0 T1 e1 T2 e2 HRR.out.1 HRR.out.2.1 HRR.out.2.2 (HX.out.1.below HBr.out) (Kd.C_below HX.out.2.2.1 HBr.out) k HFK.out (by omega) y HSY.out).mono ?_
      rintro e w5 ⟨t, rfl, hS, hb⟩
      have HKC5 := sA (bB HKCr.out hb); have HKI5 := sA (bB HKIr.out hb); have HKV5 := sA (bB HKVr.out hb); have HKT5 := sA (bB HKTr.out hb); have HW5 := sA (bC HW.out hb); clear hb
      obtain ⟨v0, v1, v2, rfl, r0, r1, r2⟩ := hS
      obtain ⟨V0, f0, rfl⟩ := Kd.R_slice r0
      obtain ⟨V1, f1, rfl⟩ := Kd.R_slice r1
      obtain ⟨V2, f2, rfl⟩ := Kd.R_slice r2
      have HRN := sA (And.intro r0 (And.intro r1 r2)); clear r0 r1 r2
      generalize hsn : stepS c x kv sk y = sn at *
      have HSN := sA hsn; clear hsn
      obtain ⟨kt1, kt2⟩ := lay0 HKT5.out
      have hq : IntKind.i64.wrap ((k : Int) + 1) = ((k + 1 : Nat) : Int) := by rw [IntWalk.i64_in _ (by omega)]; omega
      go_wp2_with ((with_reducible refine gate_store (t := 49) (p := 9) rfl ?_); refine wpList_putAll rfl rfl _ _ _ rfl (g := w1.heap.size) [.int .i64 sn.pos, .int .i64 sn.rule, .int .i64 sn.node, .int .i64 sn.time, .int .i64 sn.dist, .int .i64 sn.load, .slice V0 sn.s0.length f0, .slice V1 sn.s1.length f1, .slice V2 sn.s2.length f2] rfl rfl (by kernel_rfl) (one_all rfl) HKT5.out rfl ?_; intro w6 hX hT hz; clear hz kt1 kt2; have HW6 := sA (hT.below w1 (fun b hb => by rw [hb]; exact Nat.le_refl _) HW5.out); have HRN6 := sA (And.intro (row_tch HRN.out.1 hT HKT5.out (by decide)) (And.intro (row_tch HRN.out.2.1 hT HKT5.out (by decide)) (row_tch HRN.out.2.2 hT HKT5.out (by decide)))); have HKT6 := sA hX; clear hX hT)
      go_roundg (xs.length + 1 - (k + 1))
      case measure => omega
      case rel =>
        exact ⟨k + 1, rfl, hlt, by first | rfl | go_num, HW6, ⟨by rw [HSU.out]; exact ⟨V0, f0, V1, f1, V2, f2, HKT6.out, HRN6.out.1, HRN6.out.2.1, HRN6.out.2.2⟩⟩⟩
    · have hkx : k = xs.length := by omega
      have htk : xs.take k = xs := by rw [hkx, List.take_length]
      have hfi := HFI.out k hk
      rw [htk] at hfi HKTr HRR kt1
      have hff := hfi.ok hcv hxv hkv (by omega)
      have HFF := sA hff.2.2.2; clear hff hfi htk
      have hlt' : decide ((k : Int) < (xs.length : Int)) = false := decide_eq_false (by omega)
      have HKX := sA hkx; clear hkx
      generalize hsx : afterS c x kv xs = sk at *
      have HSX := sA hsx; clear hsx
      go_wp2_with fail
      clear kc1 kc2 ki1 ki2 kv1 kv2 kt1 kt2 hlt'
      go_at_call 35
      refine (impl_finish _ c A0 c0 A1 c1 A2 c2 x B0 d0 B1 d1 B2 d2 kv sk T0 e0 T1 e1 T2 e2 (Kd.R_reads' HRR.out.1).2.2 (Kd.R_reads' HRR.out.2.1).2.2 (Kd.R_reads' HRR.out.2.2).2.2 (HX.out.1.below HBr.out) (Kd.C_below HX.out.2.2.2.1 HBr.out) HFF.out).mono ?_
      rintro e w5 ⟨rfl, hb⟩
      have HKV5 := sA (bB HKVr.out hb); have HB5 := sA (bC HBr.out hb); clear hb
      generalize hr3 : finS c x kv sk = r3 at *
      have HR3 := sA hr3; clear hr3
      obtain ⟨ra, rb, rc'⟩ := r3
      unfold verV
      go_wp2_with ((with_reducible refine gate_store (t := 37) (p := 8) rfl ?_); refine wpList_putAll rfl rfl _ _ _ rfl (g := w.heap.size + 1 + 1) [.int .i64 ra, .int .i64 rb, .int .i64 rc'] rfl rfl (by kernel_rfl) (one_all rfl) HKV5.out rfl ?_; intro w6 hX hT hz; clear hz; have HB6 := sA (hT.below w (fun b hb => by rw [hb]; exact HGKV.out) HB5.out); have HKV6 := sA hX; clear hX hT)
      refine bodyPost_ret (results_cell Tryz.results45 rfl HKV6.out Tryz.underlying37 rfl (by kernel_rfl)) rfl ⟨?_, HB6.out⟩
      rw [HSX.out, HR3.out]; rfl
set_option maxRecDepth 100000 in
set_option maxHeartbeats 8000000 in
theorem impl_RunRoute_ask (u v1 : Value) (c : Code) (hc : ReadCode w u c) (x : Inst) (hx : ReadInst w v1 x) (v : Int) (R : Option Addr) (rc : Nat) (xs : List Int) (hr : kInt.C w R xs.length xs) (ha : askOk c x v = false) :
    Calls Tryz.prog 19 #[u, v1, .int .i64 v, .slice R xs.length rc] w fun e w' => e = .returned (verV (runV c x v xs)) ∧ Below w.heap.size w w' := by
  have HX := sA (And.intro hc (And.intro hx hr)); have HXR := sA (show ReadInts w (.slice R xs.length rc) xs from ⟨R, rc, rfl, hr⟩)
  have haa : ∀ (W : World) (u v1 : Value), ReadCode W u c → ReadInst W v1 x → Calls Tryz.prog 43 #[u, v1, .int .i64 v] W fun e w' => e = .returned (.bool false) ∧ Below W.heap.size W w' := fun W u v1 h h' => ha ▸ impl_goodAsk W u v1 c h x h' v
  have HAA := sA haa; clear haa
  have HL := sA (show runV c x v xs = (0, 0, 0) by
    unfold runV; rw [if_neg ?_]
    rintro ⟨h1, h2⟩
    rw [Inst.routeOk_road] at h2
    simp only [Bool.and_eq_true] at h2
    unfold askOk at ha
    rw [h1, h2.1.1, h2.1.2] at ha
    cases ha); clear ha
  obtain ⟨A0, c0, A1, c1, A2, c2, rfl, a0, a1, a2⟩ := hc
  obtain ⟨B0, d0, B1, d1, B2, d2, rfl, b0, b1, b2⟩ := hx
  have HKK := sA (And.intro a0 (And.intro a1 a2))
  clear a0 a1 a2 b0 b1 b2 hr
  obtain ⟨HB0, HKC0, HKI0, HKV0, HZ0⟩ := opens3 w (.cells #[.int .i64 c.regs, .int .i64 c.slots, .slice A0 c.b0.length c0, .slice A1 c.b1.length c1, .slice A2 c.b2.length c2] 41) (.cells #[.slice B0 x.vs.length d0, .slice B1 x.qs.length d1, .slice B2 x.rs.length d2] 47) (.cells #[.int .i64 0, .int .i64 0, .int .i64 0] 37)
  have HGKC := sA (show w.heap.size ≤ w.heap.size from Nat.le_add_right _ 0)
  have HGKI := sA (show w.heap.size ≤ w.heap.size + 1 from Nat.le_add_right _ 1)
  have HGKV := sA (show w.heap.size ≤ w.heap.size + 1 + 1 from Nat.le_add_right _ 2)
  have HSZ0 := sA (Nat.le_refl (((w.alloc (.cells #[.int .i64 c.regs, .int .i64 c.slots, .slice A0 c.b0.length c0, .slice A1 c.b1.length c1, .slice A2 c.b2.length c2] 41)).alloc (.cells #[.slice B0 x.vs.length d0, .slice B1 x.qs.length d1, .slice B2 x.rs.length d2] 47)).alloc (.cells #[.int .i64 0, .int .i64 0, .int .i64 0] 37)).heap.size)
  go_enter Tryz.func19, Tryz.ntmps19
  go_wp2_with fail
  go_at_call 43
  refine (HAA.out _ _ _ (HX.out.1.below HB0.out) (HX.out.2.1.below HB0.out)).mono ?_
  rintro e w1 ⟨rfl, hb⟩
  have HB1 := sA (bC HB0.out hb); have HKC1 := sA (bB HKC0.out hb); have HKI1 := sA (bB HKI0.out hb); have HKV1 := sA (bB HKV0.out hb); have HSZ1 := sA (Nat.le_trans HSZ0.out hb.size); clear hb
  obtain ⟨kc1, kc2⟩ := lay0 HKC1.out
  obtain ⟨ki1, ki2⟩ := lay0 HKI1.out
  obtain ⟨kv1, kv2⟩ := lay0 HKV1.out
  go_wp2_with ((with_reducible refine gate_store (t := 37) (p := 8) rfl ?_); refine wpList_putAll rfl rfl _ _ _ rfl (g := w.heap.size + 1 + 1) [.int .i64 0, .int .i64 0, .int .i64 0] rfl rfl (by kernel_rfl) (one_all rfl) HKV1.out rfl ?_; intro w2 hX hT hz; clear hz; clear kc1 kc2 ki1 ki2 kv1 kv2; (try simp only [List.setIfInBounds_toArray, List.set_cons_zero, List.set_cons_succ] at hX); have HB2 := sA (hT.below w (fun k hk => by rw [hk]; exact HGKV.out) HB1.out); have HKC2 := sA (tK hT HKV1.out HKC1.out (by decide)); have HKI2 := sA (tK hT HKV1.out HKI1.out (by decide)); have HSZ2 := sA (Nat.le_trans HSZ1.out hT.size); have HKV2 := sA hX; clear hX hT; obtain ⟨kc1, kc2⟩ := lay0 HKC2.out; obtain ⟨ki1, ki2⟩ := lay0 HKI2.out; obtain ⟨kv1, kv2⟩ := lay0 HKV2.out)
  clear kc1 kc2 ki1 ki2 kv1 kv2
  refine bodyPost_ret (results_cell Tryz.results19 rfl HKV2.out Tryz.underlying37 rfl (by kernel_rfl)) rfl ?_
  exact ⟨by rw [HL.out]; rfl, HB2.out⟩
set_option maxRecDepth 100000 in
set_option maxHeartbeats 8000000 in
theorem impl_RunRoute_road (u v1 : Value) (c : Code) (hc : ReadCode w u c) (x : Inst) (hx : ReadInst w v1 x) (v : Int) (R : Option Addr) (rc : Nat) (xs : List Int) (hr : kInt.C w R xs.length xs) (ha : askOk c x v = true) (hro : x.roadOk xs = false) :
    Calls Tryz.prog 19 #[u, v1, .int .i64 v, .slice R xs.length rc] w fun e w' => e = .returned (verV (runV c x v xs)) ∧ Below w.heap.size w w' := by
  have HX := sA (And.intro hc (And.intro hx hr)); have HXR := sA (show ReadInts w (.slice R xs.length rc) xs from ⟨R, rc, rfl, hr⟩)
  have haa : ∀ (W : World) (u v1 : Value), ReadCode W u c → ReadInst W v1 x → Calls Tryz.prog 43 #[u, v1, .int .i64 v] W fun e w' => e = .returned (.bool true) ∧ Below W.heap.size W w' := fun W u v1 h h' => ha ▸ impl_goodAsk W u v1 c h x h' v
  obtain ⟨kv, rfl, hkv, hcv, hxv⟩ := askOk_of ha
  have hrr : ∀ (W : World) (u r : Value), ReadInst W u x → ReadInts W r xs → Calls Tryz.prog 44 #[u, r] W fun e w' => e = .returned (.bool false) ∧ Below W.heap.size W w' := fun W u r h h' => hro ▸ impl_goodRoute W u r x h (by obtain ⟨e0, e1, e2⟩ := Inst.few_of hxv; exact ⟨by omega, by omega, by omega⟩) xs h'
  have HRR := sA hrr; clear hrr
  have HAA := sA haa; clear haa
  have HL := sA (show runV c x kv xs = (0, 0, 0) by
    unfold runV; rw [if_neg ?_]
    rintro ⟨h1, h2⟩
    rw [Inst.routeOk_road, hro] at h2
    simp at h2); clear ha hro
  obtain ⟨A0, c0, A1, c1, A2, c2, rfl, a0, a1, a2⟩ := hc
  obtain ⟨B0, d0, B1, d1, B2, d2, rfl, b0, b1, b2⟩ := hx
  have HKK := sA (And.intro a0 (And.intro a1 a2))
  clear a0 a1 a2 b0 b1 b2 hr
  obtain ⟨HB0, HKC0, HKI0, HKV0, HZ0⟩ := opens3 w (.cells #[.int .i64 c.regs, .int .i64 c.slots, .slice A0 c.b0.length c0, .slice A1 c.b1.length c1, .slice A2 c.b2.length c2] 41) (.cells #[.slice B0 x.vs.length d0, .slice B1 x.qs.length d1, .slice B2 x.rs.length d2] 47) (.cells #[.int .i64 0, .int .i64 0, .int .i64 0] 37)
  have HGKC := sA (show w.heap.size ≤ w.heap.size from Nat.le_add_right _ 0)
  have HGKI := sA (show w.heap.size ≤ w.heap.size + 1 from Nat.le_add_right _ 1)
  have HGKV := sA (show w.heap.size ≤ w.heap.size + 1 + 1 from Nat.le_add_right _ 2)
  have HSZ0 := sA (Nat.le_refl (((w.alloc (.cells #[.int .i64 c.regs, .int .i64 c.slots, .slice A0 c.b0.length c0, .slice A1 c.b1.length c1, .slice A2 c.b2.length c2] 41)).alloc (.cells #[.slice B0 x.vs.length d0, .slice B1 x.qs.length d1, .slice B2 x.rs.length d2] 47)).alloc (.cells #[.int .i64 0, .int .i64 0, .int .i64 0] 37)).heap.size)
  go_enter Tryz.func19, Tryz.ntmps19
  go_wp2_with fail
  go_at_call 43
  refine (HAA.out _ _ _ (HX.out.1.below HB0.out) (HX.out.2.1.below HB0.out)).mono ?_
  rintro e w1 ⟨rfl, hb⟩
  have HB1 := sA (bC HB0.out hb); have HKC1 := sA (bB HKC0.out hb); have HKI1 := sA (bB HKI0.out hb); have HKV1 := sA (bB HKV0.out hb); have HSZ1 := sA (Nat.le_trans HSZ0.out hb.size); clear hb
  obtain ⟨kc1, kc2⟩ := lay0 HKC1.out
  obtain ⟨ki1, ki2⟩ := lay0 HKI1.out
  obtain ⟨kv1, kv2⟩ := lay0 HKV1.out
  go_wp2_with fail
  clear kc1 kc2 ki1 ki2 kv1 kv2
  go_at_call 44
  refine (HRR.out _ _ _ (HX.out.2.1.below HB1.out) (HXR.out.below HB1.out)).mono ?_
  rintro e w2 ⟨rfl, hb⟩
  have HB2 := sA (bC HB1.out hb); have HKC2 := sA (bB HKC1.out hb); have HKI2 := sA (bB HKI1.out hb); have HKV2 := sA (bB HKV1.out hb); have HSZ2 := sA (Nat.le_trans HSZ1.out hb.size); clear hb
  obtain ⟨kc1, kc2⟩ := lay0 HKC2.out
  obtain ⟨ki1, ki2⟩ := lay0 HKI2.out
  obtain ⟨kv1, kv2⟩ := lay0 HKV2.out
  go_wp2_with ((with_reducible refine gate_store (t := 37) (p := 8) rfl ?_); refine wpList_putAll rfl rfl _ _ _ rfl (g := w.heap.size + 1 + 1) [.int .i64 0, .int .i64 0, .int .i64 0] rfl rfl (by kernel_rfl) (one_all rfl) HKV2.out rfl ?_; intro w3 hX hT hz; clear hz; clear kc1 kc2 ki1 ki2 kv1 kv2; (try simp only [List.setIfInBounds_toArray, List.set_cons_zero, List.set_cons_succ] at hX); have HB3 := sA (hT.below w (fun k hk => by rw [hk]; exact HGKV.out) HB2.out); have HKC3 := sA (tK hT HKV2.out HKC2.out (by decide)); have HKI3 := sA (tK hT HKV2.out HKI2.out (by decide)); have HSZ3 := sA (Nat.le_trans HSZ2.out hT.size); have HKV3 := sA hX; clear hX hT; obtain ⟨kc1, kc2⟩ := lay0 HKC3.out; obtain ⟨ki1, ki2⟩ := lay0 HKI3.out; obtain ⟨kv1, kv2⟩ := lay0 HKV3.out)
  clear kc1 kc2 ki1 ki2 kv1 kv2
  refine bodyPost_ret (results_cell Tryz.results19 rfl HKV3.out Tryz.underlying37 rfl (by kernel_rfl)) rfl ?_
  exact ⟨by rw [HL.out]; rfl, HB3.out⟩
set_option maxRecDepth 100000 in
set_option maxHeartbeats 8000000 in
theorem impl_RunRoute_good (u v1 : Value) (c : Code) (hc : ReadCode w u c) (x : Inst) (hx : ReadInst w v1 x) (v : Int) (R : Option Addr) (rc : Nat) (xs : List Int) (hr : kInt.C w R xs.length xs) (ha : askOk c x v = true) (hro : x.roadOk xs = true) :
    Calls Tryz.prog 19 #[u, v1, .int .i64 v, .slice R xs.length rc] w fun e w' => e = .returned (verV (runV c x v xs)) ∧ Below w.heap.size w w' := by
  have HX := sA (And.intro hc (And.intro hx hr)); have HXR := sA (show ReadInts w (.slice R xs.length rc) xs from ⟨R, rc, rfl, hr⟩)
  have haa : ∀ (W : World) (u v1 : Value), ReadCode W u c → ReadInst W v1 x → Calls Tryz.prog 43 #[u, v1, .int .i64 v] W fun e w' => e = .returned (.bool true) ∧ Below W.heap.size W w' := fun W u v1 h h' => ha ▸ impl_goodAsk W u v1 c h x h' v
  obtain ⟨kv, rfl, hkv, hcv, hxv⟩ := askOk_of ha
  have hrr : ∀ (W : World) (u r : Value), ReadInst W u x → ReadInts W r xs → Calls Tryz.prog 44 #[u, r] W fun e w' => e = .returned (.bool true) ∧ Below W.heap.size W w' := fun W u r h h' => hro ▸ impl_goodRoute W u r x h (by obtain ⟨e0, e1, e2⟩ := Inst.few_of hxv; exact ⟨by omega, by omega, by omega⟩) xs h'
  have HRR := sA hrr; clear hrr
  have HAA := sA haa; clear haa
  have HL := sA (show runV c x kv xs = finS c x kv (afterS c x kv xs) by
    unfold runV
    rw [if_pos ⟨hcv, by rw [Inst.routeOk_road, hro, hxv, (inB_iff (kv : Int) 0 ((x.vs.length : Int) - 1)).2 ⟨by omega, by omega⟩]; rfl⟩, Int.toNat_natCast])
  have hro' := hro
  unfold Inst.roadOk at hro'
  rw [Bool.and_eq_true] at hro'
  have HLS := sA (And.intro (of_decide_eq_true hro'.1) hro'.2); clear hro' hro ha
  obtain ⟨A0, c0, A1, c1, A2, c2, rfl, a0, a1, a2⟩ := hc
  obtain ⟨B0, d0, B1, d1, B2, d2, rfl, b0, b1, b2⟩ := hx
  have HKK := sA (And.intro a0 (And.intro a1 a2))
  clear a0 a1 a2 b0 b1 b2 hr
  obtain ⟨HB0, HKC0, HKI0, HKV0, HZ0⟩ := opens3 w (.cells #[.int .i64 c.regs, .int .i64 c.slots, .slice A0 c.b0.length c0, .slice A1 c.b1.length c1, .slice A2 c.b2.length c2] 41) (.cells #[.slice B0 x.vs.length d0, .slice B1 x.qs.length d1, .slice B2 x.rs.length d2] 47) (.cells #[.int .i64 0, .int .i64 0, .int .i64 0] 37)
  have HGKC := sA (show w.heap.size ≤ w.heap.size from Nat.le_add_right _ 0)
  have HGKI := sA (show w.heap.size ≤ w.heap.size + 1 from Nat.le_add_right _ 1)
  have HGKV := sA (show w.heap.size ≤ w.heap.size + 1 + 1 from Nat.le_add_right _ 2)
  have HSZ0 := sA (Nat.le_refl (((w.alloc (.cells #[.int .i64 c.regs, .int .i64 c.slots, .slice A0 c.b0.length c0, .slice A1 c.b1.length c1, .slice A2 c.b2.length c2] 41)).alloc (.cells #[.slice B0 x.vs.length d0, .slice B1 x.qs.length d1, .slice B2 x.rs.length d2] 47)).alloc (.cells #[.int .i64 0, .int .i64 0, .int .i64 0] 37)).heap.size)
  go_enter Tryz.func19, Tryz.ntmps19
  go_wp2_with fail
  go_at_call 43
  refine (HAA.out _ _ _ (HX.out.1.below HB0.out) (HX.out.2.1.below HB0.out)).mono ?_
  rintro e w1 ⟨rfl, hb⟩
  have HB1 := sA (bC HB0.out hb); have HKC1 := sA (bB HKC0.out hb); have HKI1 := sA (bB HKI0.out hb); have HKV1 := sA (bB HKV0.out hb); have HSZ1 := sA (Nat.le_trans HSZ0.out hb.size); clear hb
  obtain ⟨kc1, kc2⟩ := lay0 HKC1.out
  obtain ⟨ki1, ki2⟩ := lay0 HKI1.out
  obtain ⟨kv1, kv2⟩ := lay0 HKV1.out
  go_wp2_with fail
  clear kc1 kc2 ki1 ki2 kv1 kv2
  go_at_call 44
  refine (HRR.out _ _ _ (HX.out.2.1.below HB1.out) (HXR.out.below HB1.out)).mono ?_
  rintro e w2 ⟨rfl, hb⟩
  have HB2 := sA (bC HB1.out hb); have HKC2 := sA (bB HKC1.out hb); have HKI2 := sA (bB HKI1.out hb); have HKV2 := sA (bB HKV1.out hb); have HSZ2 := sA (Nat.le_trans HSZ1.out hb.size); clear hb
  obtain ⟨kc1, kc2⟩ := lay0 HKC2.out
  obtain ⟨ki1, ki2⟩ := lay0 HKI2.out
  obtain ⟨kv1, kv2⟩ := lay0 HKV2.out
  go_wp2_with fail
  clear kc1 kc2 ki1 ki2 kv1 kv2
  go_at_call 45
  refine (impl_runRoute _ c A0 c0 A1 c1 A2 c2 x B0 d0 B1 d1 B2 d2 kv (HX.out.2.1.below HB2.out) (Kd.C_below HKK.out.1 HB2.out) (Kd.C_below HKK.out.2.1 HB2.out) (Kd.C_below HKK.out.2.2 HB2.out) R rc xs (Kd.C_below HX.out.2.2 HB2.out) hcv hxv hkv HLS.out.2 HLS.out.1).mono ?_
  rintro e w3 ⟨rfl, hb⟩
  have HB3 := sA (bC HB2.out hb); have HKC3 := sA (bB HKC2.out hb); have HKI3 := sA (bB HKI2.out hb); have HKV3 := sA (bB HKV2.out hb); have HSZ3 := sA (Nat.le_trans HSZ2.out hb.size); clear hb
  generalize hr3 : finS c x kv (afterS c x kv xs) = r3 at *
  obtain ⟨ra, rb, rc'⟩ := r3
  unfold verV
  clear hr3
  obtain ⟨kc1, kc2⟩ := lay0 HKC3.out
  obtain ⟨ki1, ki2⟩ := lay0 HKI3.out
  obtain ⟨kv1, kv2⟩ := lay0 HKV3.out
  go_wp2_with ((with_reducible refine gate_store (t := 37) (p := 8) rfl ?_); refine wpList_putAll rfl rfl _ _ _ rfl (g := w.heap.size + 1 + 1) [.int .i64 ra, .int .i64 rb, .int .i64 rc'] rfl rfl (by kernel_rfl) (one_all rfl) HKV3.out rfl ?_; intro w4 hX hT hz; clear hz; clear kc1 kc2 ki1 ki2 kv1 kv2; (try simp only [List.setIfInBounds_toArray, List.set_cons_zero, List.set_cons_succ] at hX); have HB4 := sA (hT.below w (fun k hk => by rw [hk]; exact HGKV.out) HB3.out); have HKC4 := sA (tK hT HKV3.out HKC3.out (by decide)); have HKI4 := sA (tK hT HKV3.out HKI3.out (by decide)); have HSZ4 := sA (Nat.le_trans HSZ3.out hT.size); have HKV4 := sA hX; clear hX hT; obtain ⟨kc1, kc2⟩ := lay0 HKC4.out; obtain ⟨ki1, ki2⟩ := lay0 HKI4.out; obtain ⟨kv1, kv2⟩ := lay0 HKV4.out)
  clear kc1 kc2 ki1 ki2 kv1 kv2
  refine bodyPost_ret (results_cell Tryz.results19 rfl HKV4.out Tryz.underlying37 rfl (by kernel_rfl)) rfl ?_
  exact ⟨by rw [HL.out]; rfl, HB4.out⟩
theorem impl_RunRoute (u v1 : Value) (c : Code) (hc : ReadCode w u c) (x : Inst) (hx : ReadInst w v1 x) (v : Int) (R : Option Addr) (rc : Nat) (xs : List Int) (hr : kInt.C w R xs.length xs) :
    Calls Tryz.prog 19 #[u, v1, .int .i64 v, .slice R xs.length rc] w fun e w' => e = .returned (verV (runV c x v xs)) ∧ Below w.heap.size w w' := by
  cases ha : askOk c x v with
  | false => exact impl_RunRoute_ask w u v1 c hc x hx v R rc xs hr ha
  | true =>
    cases hro : x.roadOk xs with
    | false => exact impl_RunRoute_road w u v1 c hc x hx v R rc xs hr ha hro
    | true => exact impl_RunRoute_good w u v1 c hc x hx v R rc xs hr ha hro
end
end Go.Proofs.YtlhpbpkefkabgaaGreat.L1
