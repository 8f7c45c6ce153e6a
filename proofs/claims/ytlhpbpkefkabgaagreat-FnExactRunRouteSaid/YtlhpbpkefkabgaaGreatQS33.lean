/- A step from a good state, as the program tells it. -/
import Derived.Test.YtlhpbpkefkabgaaGreatQS32
import Derived.Test.YtlhpbpkefkabgaaGreatQS28
namespace Go.Proofs.YtlhpbpkefkabgaaGreat.L1
open Go.RowKit Go.Proofs.YtlhpbpkefkabgaaGreatW.PrintWords Go.Proofs.YtlhpbpkefkabgaaGreat.B
set_option linter.unusedVariables false
set_option linter.unusedSimpArgs false
attribute [local go_sem] mk_cell mk_frozen
section
variable (w : World)
set_option maxRecDepth 100000 in
set_option maxHeartbeats 8000000 in
theorem impl_step_failed (c : Code) (A0 : Option Addr) (c0 : Nat) (A1 : Option Addr) (c1 : Nat) (A2 : Option Addr) (c2 : Nat) (x : Inst) (B0 : Option Addr) (d0 : Nat) (B1 : Option Addr) (d1 : Nat) (B2 : Option Addr) (d2 : Nat) (kv : Nat) (s : St) (S0 : Option Addr) (g0 : Nat) (S1 : Option Addr) (g1 : Nat) (S2 : Option Addr) (g2 : Nat) (h0 : kInt.R 2 w 0 (fun _ => True) (.slice S0 s.s0.length g0) s.s0) (h1 : kInt.R 2 w 0 (fun _ => True) (.slice S1 s.s1.length g1) s.s1) (h2 : kInt.R 2 w 0 (fun _ => True) (.slice S2 s.s2.length g2) s.s2) (hI : ReadInst w (.agg #[.slice B0 x.vs.length d0, .slice B1 x.qs.length d1, .slice B2 x.rs.length d2]) x) (hK : kIns.C w A1 c.b1.length c.b1) (hr : 0 ≤ s.rule) (n : Int) :
    Calls Tryz.prog 85 #[.agg #[.int .i64 c.regs, .int .i64 c.slots, .slice A0 c.b0.length c0, .slice A1 c.b1.length c1, .slice A2 c.b2.length c2], .agg #[.slice B0 x.vs.length d0, .slice B1 x.qs.length d1, .slice B2 x.rs.length d2], .int .i64 kv, .agg #[.int .i64 s.pos, .int .i64 s.rule, .int .i64 s.node, .int .i64 s.time, .int .i64 s.dist, .int .i64 s.load, .slice S0 s.s0.length g0, .slice S1 s.s1.length g1, .slice S2 s.s2.length g2], .int .i64 n] w fun e w' => ∃ t, e = .returned t ∧ RState w' t (s) ∧ Below w.heap.size w w' := by
  have HS := sA (And.intro h0 (And.intro h1 h2)); clear h0 h1 h2 hI hK
  have hge : decide (0 ≤ s.rule) = true := decide_eq_true hr
  obtain ⟨HB0, HKC0, HKI0, HKS0, HKR0, HZ0⟩ := opens4 w (.cells #[.int .i64 c.regs, .int .i64 c.slots, .slice A0 c.b0.length c0, .slice A1 c.b1.length c1, .slice A2 c.b2.length c2] 41) (.cells #[.slice B0 x.vs.length d0, .slice B1 x.qs.length d1, .slice B2 x.rs.length d2] 47) (.cells #[.int .i64 s.pos, .int .i64 s.rule, .int .i64 s.node, .int .i64 s.time, .int .i64 s.dist, .int .i64 s.load, .slice S0 s.s0.length g0, .slice S1 s.s1.length g1, .slice S2 s.s2.length g2] 49) (.cells #[.int .i64 0, .int .i64 0, .int .i64 0, .int .i64 0, .int .i64 0, .int .i64 0, .slice none 0 0, .slice none 0 0, .slice none 0 0] 49)
  have HGKC := sA (show w.heap.size ≤ w.heap.size from Nat.le_add_right _ 0)
  have HGKI := sA (show w.heap.size ≤ w.heap.size + 1 from Nat.le_add_right _ 1)
  have HGKS := sA (show w.heap.size ≤ w.heap.size + 1 + 1 from Nat.le_add_right _ 2)
  have HGKR := sA (show w.heap.size ≤ w.heap.size + 1 + 1 + 1 from Nat.le_add_right _ 3)
  have HSZ0 := sA (Nat.le_refl ((((w.alloc (.cells #[.int .i64 c.regs, .int .i64 c.slots, .slice A0 c.b0.length c0, .slice A1 c.b1.length c1, .slice A2 c.b2.length c2] 41)).alloc (.cells #[.slice B0 x.vs.length d0, .slice B1 x.qs.length d1, .slice B2 x.rs.length d2] 47)).alloc (.cells #[.int .i64 s.pos, .int .i64 s.rule, .int .i64 s.node, .int .i64 s.time, .int .i64 s.dist, .int .i64 s.load, .slice S0 s.s0.length g0, .slice S1 s.s1.length g1, .slice S2 s.s2.length g2] 49)).alloc (.cells #[.int .i64 0, .int .i64 0, .int .i64 0, .int .i64 0, .int .i64 0, .int .i64 0, .slice none 0 0, .slice none 0 0, .slice none 0 0] 49)).heap.size)
  clear hr
  go_enter Tryz.func85, Tryz.ntmps85
  have h := HKS0.out
  obtain ⟨ks1, ks2⟩ := lay0 h; clear h
  obtain ⟨kc1, kc2⟩ := lay0 HKC0.out
  obtain ⟨ki1, ki2⟩ := lay0 HKI0.out
  obtain ⟨kr1, kr2⟩ := lay0 HKR0.out
  go_wp2_with ((with_reducible refine gate_store (t := 49) (p := 10) rfl ?_); refine wpList_putAll rfl rfl _ _ _ rfl (g := w.heap.size + 1 + 1 + 1) [.int .i64 s.pos, .int .i64 s.rule, .int .i64 s.node, .int .i64 s.time, .int .i64 s.dist, .int .i64 s.load, .slice S0 s.s0.length g0, .slice S1 s.s1.length g1, .slice S2 s.s2.length g2] rfl rfl (by kernel_rfl) (one_all rfl) HKR0.out rfl ?_; intro w1 hX hT hz; clear hz; clear kc1 kc2 ki1 ki2 kr1 kr2; (try simp only [List.setIfInBounds_toArray, List.set_cons_zero, List.set_cons_succ] at hX); have HB1 := sA (hT.below w (fun k hk => by rw [hk]; exact HGKR.out) HB0.out); have HKC1 := sA (tK hT HKR0.out HKC0.out (by decide)); have HKI1 := sA (tK hT HKR0.out HKI0.out (by decide)); have HSZ1 := sA (Nat.le_trans HSZ0.out hT.size); have HKR1 := sA hX; clear hX hT; obtain ⟨kc1, kc2⟩ := lay0 HKC1.out; obtain ⟨ki1, ki2⟩ := lay0 HKI1.out; obtain ⟨kr1, kr2⟩ := lay0 HKR1.out)
  clear kc1 kc2 ki1 ki2 kr1 kr2
  refine bodyPost_ret (results_cell Tryz.results85 rfl HKR1.out Tryz.underlying49 rfl (by kernel_rfl)) rfl ?_
  exact ⟨_, rfl, ⟨_, _, _, rfl, Kd.R_below HS.out.1 HB1.out, Kd.R_below HS.out.2.1 HB1.out, Kd.R_below HS.out.2.2 HB1.out⟩, HB1.out⟩
set_option maxRecDepth 100000 in
set_option maxHeartbeats 8000000 in
theorem impl_step_go0 (c : Code) (A0 : Option Addr) (c0 : Nat) (A1 : Option Addr) (c1 : Nat) (A2 : Option Addr) (c2 : Nat) (x : Inst) (B0 : Option Addr) (d0 : Nat) (B1 : Option Addr) (d1 : Nat) (B2 : Option Addr) (d2 : Nat) (kv : Nat) (s : St) (S0 : Option Addr) (g0 : Nat) (S1 : Option Addr) (g1 : Nat) (S2 : Option Addr) (g2 : Nat) (h0 : kInt.R 2 w 0 (fun _ => True) (.slice S0 s.s0.length g0) s.s0) (h1 : kInt.R 2 w 0 (fun _ => True) (.slice S1 s.s1.length g1) s.s1) (h2 : kInt.R 2 w 0 (fun _ => True) (.slice S2 s.s2.length g2) s.s2) (hI : ReadInst w (.agg #[.slice B0 x.vs.length d0, .slice B1 x.qs.length d1, .slice B2 x.rs.length d2]) x) (hK : kIns.C w A1 c.b1.length c.b1) (hR : Run c x kv s) (hp : s.pos < 4096) (k j : Nat) (hj : j < x.qs.length) (hk : k = x.vs.length + (2 * j + 0)) (hy : atI s.s0 j = 0) :
    Calls Tryz.prog 85 #[.agg #[.int .i64 c.regs, .int .i64 c.slots, .slice A0 c.b0.length c0, .slice A1 c.b1.length c1, .slice A2 c.b2.length c2], .agg #[.slice B0 x.vs.length d0, .slice B1 x.qs.length d1, .slice B2 x.rs.length d2], .int .i64 kv, .agg #[.int .i64 s.pos, .int .i64 s.rule, .int .i64 s.node, .int .i64 s.time, .int .i64 s.dist, .int .i64 s.load, .slice S0 s.s0.length g0, .slice S1 s.s1.length g1, .slice S2 s.s2.length g2], .int .i64 k] w fun e w' => ∃ t, e = .returned t ∧ RState w' t (stepS c x kv s k) ∧ Below w.heap.size w w' := by
  replace h0 := (Kd.R_reads' h0).2.2; replace h1 := (Kd.R_reads' h1).2.2; replace h2 := (Kd.R_reads' h2).2.2
  have HS := sA (And.intro h0 (And.intro h1 h2)); have HR := sA hR; have HX := sA hI; have HK := sA hK
  have hge : decide (0 ≤ s.rule) = false := decide_eq_false (by have := hR.rule; omega)
  have hlt : decide (s.pos < 0) = false := decide_eq_false (by have := hR.p0; omega)
  have hxv := hR.val; have hcv := hR.cv; have hkv := hR.hv
  obtain ⟨f0, f1, f2, hnear⟩ := Inst.few_near hxv
  have hsv : x.vs.length ≤ 1048576 := by omega
  have hz0 := hR.z0; have hz1 := hR.z1; have hz2 := hR.z2
  obtain ⟨m, hm⟩ : ∃ m, m = 2 * j + 0 := ⟨_, rfl⟩
  have hk' : k = x.vs.length + m := by omega
  have hst : x.stop (k : Int) = true := by unfold Inst.stop Inst.nodes; exact (inB_iff _ _ _).2 ⟨by omega, by omega⟩
  have hrq : x.reqI k = (j : Int) ∧ ((k : Int) - x.vs.length).tmod 2 = 0 := by
    have e : ((k : Int) - x.vs.length) = ((2 * j + 0 : Nat) : Int) := by omega
    unfold Inst.reqI
    rw [e]
    refine ⟨?_, ?_⟩
    · show ((2 * j + 0 : Nat) : Int).tdiv ((2 : Nat) : Int) = _; rw [← Int.ofNat_tdiv]; omega
    · show ((2 * j + 0 : Nat) : Int).tmod ((2 : Nat) : Int) = _; rw [← Int.ofNat_tmod]; omega
  have HN := sA (And.intro hst hrq)
  have hjI : (j : Int) < (s.s0.length : Int) := by omega
  have hjN : j < s.s0.length := by omega
  have HJN := sA hjN
  obtain ⟨az, e0, z0⟩ := int_at h0 hjN
  cases e0
  have hcf := Code.facts hcv
  have hsl := slots_small hcv hxv
  have HSM := sA (show s.s0.length ≤ 1000000000 ∧ s.s1.length ≤ 1000000000 ∧ s.s2.length ≤ 1000000000 from ⟨by omega, by omega, by omega⟩)
  have HLN := sA (show 13 ≤ s.s1.length by omega); have HCF := sA hcf
  have HKM := sA (And.intro hm hk'); have HJQ := sA hj
  have HP4 := sA (show s.pos ≤ 4096 by omega)
  have HJ6 := sA (show wrap64 (j : Int) = (j : Int) from IntWalk.wrap64_in _ (by have := (Inst.few_of hxv).2.1; have := HJQ.out; omega))
  have q0 : IntKind.i64.wrap ((k : Int) - (x.vs.length : Int)) = (m : Int) := by rw [IntWalk.i64_in _ (by omega)]; omega
  clear h0 h1 h2 hI hK hnear hz0 hz1 hz2 hst hrq hcf hsl hk hk' hR hp
  have q1 : wrap64 ((m : Int) / 2) = (j : Int) := by rw [show (m : Int) / 2 = (j : Int) by omega]; exact IntWalk.wrap64_in _ (by omega)
  have q2 : wrap64 ((m : Int) % 2) = 0 := by rw [show (m : Int) % 2 = 0 by omega]; exact IntWalk.wrap64_in _ (by omega)
  have q4 : (m : Int) / 2 = (j : Int) := by omega
  have q5 : (m : Int) % 2 = 0 := by omega
  have qp : IntKind.i64.wrap (s.pos + 1) = s.pos + 1 := IntWalk.i64_in _ (by have := HR.out.p0; have := HP4.out; omega)
  have HQ := sA (And.intro q0 (And.intro q1 (And.intro q2 (And.intro q4 (And.intro q5 qp)))))
  clear q0 q1 q2 q4 q5 qp hm
  rw [hy] at z0
  have ZT := sA z0; clear z0
  have HY := sA hy; clear hy
  obtain ⟨HB0, HKC0, HKI0, HKS0, HKR0, HZ0⟩ := opens4 w (.cells #[.int .i64 c.regs, .int .i64 c.slots, .slice A0 c.b0.length c0, .slice A1 c.b1.length c1, .slice A2 c.b2.length c2] 41) (.cells #[.slice B0 x.vs.length d0, .slice B1 x.qs.length d1, .slice B2 x.rs.length d2] 47) (.cells #[.int .i64 s.pos, .int .i64 s.rule, .int .i64 s.node, .int .i64 s.time, .int .i64 s.dist, .int .i64 s.load, .slice (some az) s.s0.length g0, .slice S1 s.s1.length g1, .slice S2 s.s2.length g2] 49) (.cells #[.int .i64 0, .int .i64 0, .int .i64 0, .int .i64 0, .int .i64 0, .int .i64 0, .slice none 0 0, .slice none 0 0, .slice none 0 0] 49)
  have HGKC := sA (show w.heap.size ≤ w.heap.size from Nat.le_add_right _ 0)
  have HGKI := sA (show w.heap.size ≤ w.heap.size + 1 from Nat.le_add_right _ 1)
  have HGKS := sA (show w.heap.size ≤ w.heap.size + 1 + 1 from Nat.le_add_right _ 2)
  have HGKR := sA (show w.heap.size ≤ w.heap.size + 1 + 1 + 1 from Nat.le_add_right _ 3)
  have HSZ0 := sA (Nat.le_refl ((((w.alloc (.cells #[.int .i64 c.regs, .int .i64 c.slots, .slice A0 c.b0.length c0, .slice A1 c.b1.length c1, .slice A2 c.b2.length c2] 41)).alloc (.cells #[.slice B0 x.vs.length d0, .slice B1 x.qs.length d1, .slice B2 x.rs.length d2] 47)).alloc (.cells #[.int .i64 s.pos, .int .i64 s.rule, .int .i64 s.node, .int .i64 s.time, .int .i64 s.dist, .int .i64 s.load, .slice (some az) s.s0.length g0, .slice S1 s.s1.length g1, .slice S2 s.s2.length g2] 49)).alloc (.cells #[.int .i64 0, .int .i64 0, .int .i64 0, .int .i64 0, .int .i64 0, .int .i64 0, .slice none 0 0, .slice none 0 0, .slice none 0 0] 49)).heap.size)
  go_enter Tryz.func85, Tryz.ntmps85
  go_wp2_with fail
  go_at_call 80
  refine (impl_vehicles _ B0 B1 B2 x.vs.length x.qs.length x.rs.length d0 d1 d2 hsv).mono ?_
  rintro e w1 ⟨rfl, hb⟩
  have HB1 := sA (bC HB0.out hb); have HKC1 := sA (bB HKC0.out hb); have HKI1 := sA (bB HKI0.out hb); have HKS1 := sA (bB HKS0.out hb); have HKR1 := sA (bB HKR0.out hb); have HSZ1 := sA (Nat.le_trans HSZ0.out hb.size); clear hb
  obtain ⟨q0, q1, q2, q4, q5, qp⟩ := HQ.out
  obtain ⟨kc1, kc2⟩ := lay0 HKC1.out
  obtain ⟨ki1, ki2⟩ := lay0 HKI1.out
  obtain ⟨ks1, ks2⟩ := lay0 HKS1.out
  obtain ⟨kr1, kr2⟩ := lay0 HKR1.out
  have cZT := pC HB1.out ZT.out
  go_wp2_with fail
  clear kc1 kc2 ki1 ki2 ks1 ks2 kr1 kr2 cZT
  clear q0 q1 q2 q4 q5 qp
  go_at_call 67
  refine (impl_from w1 c A0 c0 A1 c1 A2 c2 x B0 d0 B1 d1 B2 d2 kv s (some az) g0 S1 g1 S2 g2 (Kd.C_below HS.out.1 HB1.out) (Kd.C_below HS.out.2.1 HB1.out) (Kd.C_below HS.out.2.2 HB1.out) (by have := HLN.out; omega) HSM.out.1 HSM.out.2.1 HSM.out.2.2).mono ?_
  rintro e w2 ⟨g, rfl, s0, ga, cR, s2, hF⟩
  have hb := hF.2.2.2.2.2.2.2.2.2
  have HF := sA hF; clear hF
  have HB2 := sA (bC HB1.out hb); have HKC2 := sA (bB HKC1.out hb); have HKI2 := sA (bB HKI1.out hb); have HKS2 := sA (bB HKS1.out hb); have HKR2 := sA (bB HKR1.out hb); have HSZ2 := sA (Nat.le_trans HSZ1.out hb.size); clear hb
  obtain ⟨gs, qs, e0, hgs, _, _⟩ := Kd.R_form HF.out.2.2.2.1 (by have := HJN.out; omega)
  subst e0
  have HGS := sA hgs; clear hgs
  go_wp2_with fail
  go_at_call 68
  obtain ⟨f1, f2, f3, f4, f5, f6, f7, f8, f9, fb⟩ := HF.out
  refine (impl_arrive_stop w2 w1 g ga s.s1.length cR s.pos s.node s.time s.dist s.load (.int .i64 c.regs) (.int .i64 c.slots) (.slice A0 c.b0.length c0) (.slice A1 c.b1.length c1) (.slice A2 c.b2.length c2) B0 d0 B1 d1 B2 d2 x kv (-1) _ s2 0 s.s1 s.s2 s.s0 (HX.out.below HB1.out) hxv hkv fb f1 f2 f3 f5 f6 f4 f7 f8 HLN.out HR.out.n0 HR.out.n1 HR.out.p0 HP4.out s ⟨rfl, rfl, rfl, rfl, rfl⟩ k m j 0 HJQ.out (by decide) HKM.out.1 HKM.out.2 true false rfl rfl).mono ?_
  clear f1 f2 f3 f4 f5 f6 f7 f8 f9 fb
  rintro e w3 ⟨rfl, hba, hg2, hr2, hs2, ht2⟩
  have HKG3 := sA hg2; have HRa3 := sA hr2; have HRb3 := sA hs2; have HRc3 := sA ht2; clear hg2 hr2 hs2 ht2
  have HB3 := sA (bC HB1.out hba); have HKC3 := sA (bB HKC1.out hba); have HKI3 := sA (bB HKI1.out hba); have HKS3 := sA (bB HKS1.out hba); have HKR3 := sA (bB HKR1.out hba); have HSZ3 := sA (Nat.le_trans HSZ1.out hba.size)
  have HBa3 := sA hba; clear hba
  have hfc := HKG3.out
  generalize hnt : maxI (x.placeAt k).o (nextArr x s k) = nt at hfc
  generalize hnd : satAdd s.dist (x.leg s.node k) = nd at hfc
  generalize hnl : satAdd s.load ((bitI (x.pick k) - bitI (x.dropB k)) * x.sizeAt k) = nl at hfc
  have HNX := sA (And.intro hnt (And.intro hnd hnl)); clear hnt hnd hnl
  unfold frameC at hfc
  clear HKG3
  have HKG3 := sA hfc
  obtain ⟨kg1, kg2⟩ := lay0 hfc; clear hfc
  obtain ⟨ae, ee, ze⟩ := int_at (Kd.R_reads' HRc3.out).2.2 HJN.out
  cases ee
  have zf : w3.cell? ⟨gs, j, none⟩ = some (.int .i64 0) := by rw [← HY.out, ← ze]; unfold Addr.add; split; (rename_i h; rw [h]); simp
  clear ze
  obtain ⟨q0, q1, q2, q4, q5, qp⟩ := HQ.out
  have qw : IntKind.i64.wrap 1 = 1 := rfl
  have q6 := HJ6.out
  obtain ⟨kc1, kc2⟩ := lay0 HKC3.out
  obtain ⟨ki1, ki2⟩ := lay0 HKI3.out
  go_wp2_with ((with_reducible refine gate_store (t := 2) (p := 56) rfl ?_); refine Kd.flat_store kInt rfl rfl rfl 2 _ _ rfl j 1 rfl (by simp) rfl (by kernel_rfl) HRc3.out HJN.out HBa3.out ?_; intro w4 hr3 hb3 hg3; clear kg1 kg2 zf q0 q1 q2 q4 q5 q6 qp qw kc1 kc2 ki1 ki2; have hT : Tch (fun k => k = gs) w3 w4 := Tch.grown hg3 rfl hg3.size; obtain ⟨ck, hck⟩ := own_blk HRc3.out rfl; have HKG4 := sA (tK hT hck HKG3.out (by decide)); have HRa4 := sA (int_keep HRa3.out fun b hk hl => hT.same b hl (fun e => HF.out.2.2.2.2.2.2.2.1 (by have h1 : some ga = some b := hk; rw [e] at h1; exact h1.symm))); have HRb4 := sA (int_keep HRb3.out fun b hk hl => hT.same b hl (fun e => HF.out.2.2.2.2.2.2.2.2.1 gs rfl (hk.trans (congrArg some e)))); have HRc4 := sA hr3; have HB4 := sA (bC HB1.out hb3); have HKC4 := sA (bB HKC1.out hb3); have HKI4 := sA (bB HKI1.out hb3); have HKR4 := sA (bB HKR1.out hb3); have HSZ4 := sA (Nat.le_trans HSZ1.out hb3.size); have HBa4 := sA hb3; clear hT hck hr3 hg3 hb3 ck; obtain ⟨kc1, kc2⟩ := lay0 HKC4.out; obtain ⟨ki1, ki2⟩ := lay0 HKI4.out)
  clear kc1 kc2 ki1 ki2
  go_at_call 69
  have HMI : MInv w1 (fun br => frameC (s.pos + 1) k nt nd nl (.int .i64 c.regs) (.int .i64 c.slots) (.slice A0 c.b0.length c0) (.slice A1 c.b1.length c1) (.slice A2 c.b2.length c2) (.slice B0 x.vs.length d0) (.slice B1 x.qs.length d1) (.slice B2 x.rs.length d2) kv j (.slice (some ⟨gs, 0, none⟩) s.s0.length qs) (.slice (some ⟨ga, 0, none⟩) s.s1.length cR) s2 br) g ga s.s1.length cR s2 (.slice (some ⟨gs, 0, none⟩) s.s0.length qs) (s.s0.set j 1) w4 (stepM x kv s k) := ⟨HBa4.out, HF.out.2.1, HF.out.2.2.1, by show (nextA x kv s k ++ s.s1.drop 13).length = _; rw [List.length_append, nextA_len, List.length_drop]; have := HLN.out; omega, HKG4.out, HRa4.out, HRb4.out, HF.out.2.2.2.2.2.2.1, HRc4.out, HF.out.2.2.2.2.2.2.2.1, HF.out.2.2.2.2.2.2.2.2.1⟩
  have hXI := HX.out.below HB1.out
  obtain ⟨C0, k0, C1, k1, C2, k2, he, b0, b1, b2⟩ := hXI; clear b2
  have he1 : B0 = C0 ∧ B1 = C1 := by injection he with he; simp at he; exact ⟨he.1.1, he.2.1.1⟩
  obtain ⟨rfl, rfl⟩ := he1
  refine (impl_run w4 w1 (s.pos + 1) k nt nd nl (.int .i64 c.regs) (.int .i64 c.slots) (.slice A0 c.b0.length c0) (.slice A1 c.b1.length c1) (.slice A2 c.b2.length c2) B0 d0 B1 d1 B2 d2 x kv j (.slice (some ⟨gs, 0, none⟩) s.s0.length qs) s2 g ga s.s1.length cR c.regs c.slots (stepM x kv s k) (s.s0.set j 1) HMI (by have h := HR.out.step HN.out.1; rw [HN.out.2.1] at h; exact h) b0 b1 hxv hkv HCF.out.2.2.1 HCF.out.2.2.2.1 rfl HCF.out.1 A1 c1 c.b1 (Kd.C_below HK.out HB1.out) HCF.out.2.2.2.2.2.1).mono ?_
  clear HMI b0 b1 he
  rintro e w5 ⟨rfl, hM⟩
  have hba := hM.bel
  have HM := sA hM; clear hM
  have hrl : (runB (envOf x kv j) c.b1 (stepM x kv s k)).rule = -1 ∨ (1 ≤ (runB (envOf x kv j) c.b1 (stepM x kv s k)).rule ∧ (runB (envOf x kv j) c.b1 (stepM x kv s k)).rule ≤ 100) := rule_of HCF.out.2.2.2.2.2.1 rfl
  have HB5 := sA (bC HB1.out hba); have HKC5 := sA (bB HKC1.out hba); have HKI5 := sA (bB HKI1.out hba); have HKR5 := sA (bB HKR1.out hba); have HSZ5 := sA (Nat.le_trans HSZ1.out hba.size)
  clear hba
  have HST := sA (show stepS c x kv s k = if 0 ≤ (runB (envOf x kv j) c.b1 (stepM x kv s k)).rule then failS (s.pos + 1) (runB (envOf x kv j) c.b1 (stepM x kv s k)).rule else goS x kv s k (runB (envOf x kv j) c.b1 (stepM x kv s k)) by
    unfold stepS
    rw [if_neg (by have := HR.out.rule; omega), HN.out.2.1, HN.out.2.2, HY.out, if_neg (by decide)])
  have hln := HM.out.ln
  generalize runB (envOf x kv j) c.b1 (stepM x kv s k) = mF at *
  obtain ⟨R2, q2, e2⟩ := Kd.R_slice HM.out.r2
  subst e2
  have HLM := sA hln; clear hln
  have HRa5 := sA HM.out.r1; have HRb5 := sA HM.out.r2; have HRc5 := sA HM.out.r0
  rcases hrl with hr | ⟨hr1, hr2⟩
  ·
    have HL := sA (show stepS c x kv s k = goS x kv s k mF by rw [HST.out, if_neg (by omega)]); have HBR := sA (show brk mF.rule = 0 by unfold brk; rw [if_pos (by omega)]); clear hr
    obtain ⟨kc1, kc2⟩ := lay0 HKC5.out
    obtain ⟨ki1, ki2⟩ := lay0 HKI5.out
    obtain ⟨kr1, kr2⟩ := lay0 HKR5.out
    go_wp2_with fail
    clear kc1 kc2 ki1 ki2 kr1 kr2
    go_at_call 120
    have hfr := HM.out.fr
    rw [HBR.out] at hfr
    refine (impl_state_good _ _ _ _ _ _ _ _ _ _ _ _ _ _ _ _ _ _ _ _ _ _ _ _ _ _ _ hfr rfl).mono ?_
    rintro e w6 ⟨rfl, hb⟩
    clear hfr
    have HB6 := sA (bC HB5.out hb); have HKC6 := sA (bB HKC5.out hb); have HKI6 := sA (bB HKI5.out hb); have HKR6 := sA (bB HKR5.out hb); have HRa6 := sA (Kd.R_below HRa5.out hb); have HRb6 := sA (Kd.R_below HRb5.out hb); have HRc6 := sA (Kd.R_below HRc5.out hb); have HSZ6 := sA (Nat.le_trans HSZ5.out hb.size); clear hb
    obtain ⟨kc1, kc2⟩ := lay0 HKC6.out
    obtain ⟨ki1, ki2⟩ := lay0 HKI6.out
    obtain ⟨kr1, kr2⟩ := lay0 HKR6.out
    go_wp2_with ((with_reducible refine gate_store (t := 49) (p := 10) rfl ?_); refine wpList_putAll rfl rfl _ _ _ rfl (g := w.heap.size + 1 + 1 + 1) [.int .i64 (s.pos + 1), .int .i64 (-1), .int .i64 k, .int .i64 nt, .int .i64 nd, .int .i64 nl, .slice (some ⟨gs, 0, none⟩) s.s0.length qs, .slice (some ⟨ga, 0, none⟩) s.s1.length cR, .slice R2 mF.slots.length q2] rfl rfl (by kernel_rfl) (one_all rfl) HKR6.out rfl ?_; intro w7 hX hT hz; clear hz; clear kc1 kc2 ki1 ki2 kr1 kr2; (try simp only [List.setIfInBounds_toArray, List.set_cons_zero, List.set_cons_succ] at hX); have HB7 := sA (hT.below w (fun k hk => by rw [hk]; exact HGKR.out) HB6.out); have HKC7 := sA (tK hT HKR6.out HKC6.out (by decide)); have HKI7 := sA (tK hT HKR6.out HKI6.out (by decide)); have HRa7 := sA (row_tch HRa6.out hT HKR6.out (by decide)); have HRb7 := sA (row_tch HRb6.out hT HKR6.out (by decide)); have HRc7 := sA (row_tch HRc6.out hT HKR6.out (by decide)); have HSZ7 := sA (Nat.le_trans HSZ6.out hT.size); have HKR7 := sA hX; clear hX hT; obtain ⟨kc1, kc2⟩ := lay0 HKC7.out; obtain ⟨ki1, ki2⟩ := lay0 HKI7.out; obtain ⟨kr1, kr2⟩ := lay0 HKR7.out)
    clear kc1 kc2 ki1 ki2 kr1 kr2
    refine bodyPost_ret (results_cell Tryz.results85 rfl HKR7.out Tryz.underlying49 rfl (by kernel_rfl)) rfl ?_
    refine ⟨_, rfl, ?_, HB7.out⟩
    rw [HL.out]
    unfold goS
    rw [HNX.out.1, HNX.out.2.1, HNX.out.2.2, HN.out.2.1, HY.out]
    exact ⟨_, _, _, rfl, Kd.R_lower (show kInt.R 2 _ _ _ _ (putI s.s0 j 1) from HRc7.out) (Nat.zero_le _), Kd.R_lower HRa7.out (Nat.zero_le _), Kd.R_lower HRb7.out (Nat.zero_le _)⟩
  ·
    have HL := sA (show stepS c x kv s k = failS (s.pos + 1) mF.rule by rw [HST.out, if_pos (by omega)]); have HBR := sA (show brk mF.rule = mF.rule by unfold brk; rw [if_neg (by omega)]); have HRP := sA (show 0 < mF.rule by omega); clear hr1 hr2
    obtain ⟨kc1, kc2⟩ := lay0 HKC5.out
    obtain ⟨ki1, ki2⟩ := lay0 HKI5.out
    obtain ⟨kr1, kr2⟩ := lay0 HKR5.out
    go_wp2_with fail
    clear kc1 kc2 ki1 ki2 kr1 kr2
    go_at_call 120
    have hfr := HM.out.fr
    rw [HBR.out] at hfr
    refine (impl_state_bad _ _ _ _ _ _ _ _ _ _ _ _ _ _ _ _ _ _ _ _ _ _ _ _ _ _ _ hfr HRP.out).mono ?_
    rintro e w6 ⟨rfl, hb⟩
    clear hfr
    have HB6 := sA (bC HB5.out hb); have HKC6 := sA (bB HKC5.out hb); have HKI6 := sA (bB HKI5.out hb); have HKR6 := sA (bB HKR5.out hb); have HRa6 := sA (Kd.R_below HRa5.out hb); have HRb6 := sA (Kd.R_below HRb5.out hb); have HRc6 := sA (Kd.R_below HRc5.out hb); have HSZ6 := sA (Nat.le_trans HSZ5.out hb.size); clear hb
    obtain ⟨kc1, kc2⟩ := lay0 HKC6.out
    obtain ⟨ki1, ki2⟩ := lay0 HKI6.out
    obtain ⟨kr1, kr2⟩ := lay0 HKR6.out
    go_wp2_with ((with_reducible refine gate_store (t := 49) (p := 10) rfl ?_); refine wpList_putAll rfl rfl _ _ _ rfl (g := w.heap.size + 1 + 1 + 1) [.int .i64 (s.pos + 1), .int .i64 mF.rule, .int .i64 0, .int .i64 0, .int .i64 0, .int .i64 0, .slice none 0 0, .slice none 0 0, .slice none 0 0] rfl rfl (by kernel_rfl) (one_all rfl) HKR6.out rfl ?_; intro w7 hX hT hz; clear hz; clear kc1 kc2 ki1 ki2 kr1 kr2; (try simp only [List.setIfInBounds_toArray, List.set_cons_zero, List.set_cons_succ] at hX); have HB7 := sA (hT.below w (fun k hk => by rw [hk]; exact HGKR.out) HB6.out); have HKC7 := sA (tK hT HKR6.out HKC6.out (by decide)); have HKI7 := sA (tK hT HKR6.out HKI6.out (by decide)); have HRa7 := sA (row_tch HRa6.out hT HKR6.out (by decide)); have HRb7 := sA (row_tch HRb6.out hT HKR6.out (by decide)); have HRc7 := sA (row_tch HRc6.out hT HKR6.out (by decide)); have HSZ7 := sA (Nat.le_trans HSZ6.out hT.size); have HKR7 := sA hX; clear hX hT; obtain ⟨kc1, kc2⟩ := lay0 HKC7.out; obtain ⟨ki1, ki2⟩ := lay0 HKI7.out; obtain ⟨kr1, kr2⟩ := lay0 HKR7.out)
    clear kc1 kc2 ki1 ki2 kr1 kr2
    refine bodyPost_ret (results_cell Tryz.results85 rfl HKR7.out Tryz.underlying49 rfl (by kernel_rfl)) rfl ?_
    exact ⟨_, rfl, HL.out ▸ rstate_failed _ (s.pos + 1) mF.rule, HB7.out⟩
set_option maxRecDepth 100000 in
set_option maxHeartbeats 8000000 in
theorem impl_step_bad0 (c : Code) (A0 : Option Addr) (c0 : Nat) (A1 : Option Addr) (c1 : Nat) (A2 : Option Addr) (c2 : Nat) (x : Inst) (B0 : Option Addr) (d0 : Nat) (B1 : Option Addr) (d1 : Nat) (B2 : Option Addr) (d2 : Nat) (kv : Nat) (s : St) (S0 : Option Addr) (g0 : Nat) (S1 : Option Addr) (g1 : Nat) (S2 : Option Addr) (g2 : Nat) (h0 : kInt.R 2 w 0 (fun _ => True) (.slice S0 s.s0.length g0) s.s0) (h1 : kInt.R 2 w 0 (fun _ => True) (.slice S1 s.s1.length g1) s.s1) (h2 : kInt.R 2 w 0 (fun _ => True) (.slice S2 s.s2.length g2) s.s2) (hI : ReadInst w (.agg #[.slice B0 x.vs.length d0, .slice B1 x.qs.length d1, .slice B2 x.rs.length d2]) x) (hK : kIns.C w A1 c.b1.length c.b1) (hR : Run c x kv s) (hp : s.pos < 4096) (k j : Nat) (hj : j < x.qs.length) (hk : k = x.vs.length + (2 * j + 0)) (hy : atI s.s0 j ≠ 0) :
    Calls Tryz.prog 85 #[.agg #[.int .i64 c.regs, .int .i64 c.slots, .slice A0 c.b0.length c0, .slice A1 c.b1.length c1, .slice A2 c.b2.length c2], .agg #[.slice B0 x.vs.length d0, .slice B1 x.qs.length d1, .slice B2 x.rs.length d2], .int .i64 kv, .agg #[.int .i64 s.pos, .int .i64 s.rule, .int .i64 s.node, .int .i64 s.time, .int .i64 s.dist, .int .i64 s.load, .slice S0 s.s0.length g0, .slice S1 s.s1.length g1, .slice S2 s.s2.length g2], .int .i64 k] w fun e w' => ∃ t, e = .returned t ∧ RState w' t (stepS c x kv s k) ∧ Below w.heap.size w w' := by
  replace h0 := (Kd.R_reads' h0).2.2; replace h1 := (Kd.R_reads' h1).2.2; replace h2 := (Kd.R_reads' h2).2.2
  have HS := sA (And.intro h0 (And.intro h1 h2)); have HR := sA hR; have HX := sA hI; have HK := sA hK
  have hge : decide (0 ≤ s.rule) = false := decide_eq_false (by have := hR.rule; omega)
  have hlt : decide (s.pos < 0) = false := decide_eq_false (by have := hR.p0; omega)
  have hxv := hR.val; have hcv := hR.cv; have hkv := hR.hv
  obtain ⟨f0, f1, f2, hnear⟩ := Inst.few_near hxv
  have hsv : x.vs.length ≤ 1048576 := by omega
  have hz0 := hR.z0; have hz1 := hR.z1; have hz2 := hR.z2
  obtain ⟨m, hm⟩ : ∃ m, m = 2 * j + 0 := ⟨_, rfl⟩
  have hk' : k = x.vs.length + m := by omega
  have hst : x.stop (k : Int) = true := by unfold Inst.stop Inst.nodes; exact (inB_iff _ _ _).2 ⟨by omega, by omega⟩
  have hrq : x.reqI k = (j : Int) ∧ ((k : Int) - x.vs.length).tmod 2 = 0 := by
    have e : ((k : Int) - x.vs.length) = ((2 * j + 0 : Nat) : Int) := by omega
    unfold Inst.reqI
    rw [e]
    refine ⟨?_, ?_⟩
    · show ((2 * j + 0 : Nat) : Int).tdiv ((2 : Nat) : Int) = _; rw [← Int.ofNat_tdiv]; omega
    · show ((2 * j + 0 : Nat) : Int).tmod ((2 : Nat) : Int) = _; rw [← Int.ofNat_tmod]; omega
  have HN := sA (And.intro hst hrq)
  have hjI : (j : Int) < (s.s0.length : Int) := by omega
  have hjN : j < s.s0.length := by omega
  have HJN := sA hjN
  obtain ⟨az, e0, z0⟩ := int_at h0 hjN
  cases e0
  have hcf := Code.facts hcv
  have hsl := slots_small hcv hxv
  have HSM := sA (show s.s0.length ≤ 1000000000 ∧ s.s1.length ≤ 1000000000 ∧ s.s2.length ≤ 1000000000 from ⟨by omega, by omega, by omega⟩)
  have HLN := sA (show 13 ≤ s.s1.length by omega); have HCF := sA hcf
  have HKM := sA (And.intro hm hk'); have HJQ := sA hj
  have HP4 := sA (show s.pos ≤ 4096 by omega)
  have HJ6 := sA (show wrap64 (j : Int) = (j : Int) from IntWalk.wrap64_in _ (by have := (Inst.few_of hxv).2.1; have := HJQ.out; omega))
  have q0 : IntKind.i64.wrap ((k : Int) - (x.vs.length : Int)) = (m : Int) := by rw [IntWalk.i64_in _ (by omega)]; omega
  clear h0 h1 h2 hI hK hnear hz0 hz1 hz2 hst hrq hcf hsl hk hk' hR hp
  have q1 : wrap64 ((m : Int) / 2) = (j : Int) := by rw [show (m : Int) / 2 = (j : Int) by omega]; exact IntWalk.wrap64_in _ (by omega)
  have q2 : wrap64 ((m : Int) % 2) = 0 := by rw [show (m : Int) % 2 = 0 by omega]; exact IntWalk.wrap64_in _ (by omega)
  have q4 : (m : Int) / 2 = (j : Int) := by omega
  have q5 : (m : Int) % 2 = 0 := by omega
  have qp : IntKind.i64.wrap (s.pos + 1) = s.pos + 1 := IntWalk.i64_in _ (by have := HR.out.p0; have := HP4.out; omega)
  have HQ := sA (And.intro q0 (And.intro q1 (And.intro q2 (And.intro q4 (And.intro q5 qp)))))
  clear q0 q1 q2 q4 q5 qp hm
  have HL := sA (show stepS c x kv s k = failS (s.pos + 1) 0 by unfold stepS; rw [if_neg (by have := HR.out.rule; omega), HN.out.2.1, HN.out.2.2, if_pos hy])
  generalize atI s.s0 j = y at hy z0
  have ZT := sA z0; clear z0
  have y1 : (y == 0) = false := beq_eq_false_iff_ne.2 hy
  have y2 : decide (y = 0) = false := decide_eq_false hy
  have y3 : (y != 0) = true := bne_iff_ne.2 hy
  have y4 : (!decide (y = 0)) = true := by rw [y2]; rfl
  clear hy
  obtain ⟨HB0, HKC0, HKI0, HKS0, HKR0, HZ0⟩ := opens4 w (.cells #[.int .i64 c.regs, .int .i64 c.slots, .slice A0 c.b0.length c0, .slice A1 c.b1.length c1, .slice A2 c.b2.length c2] 41) (.cells #[.slice B0 x.vs.length d0, .slice B1 x.qs.length d1, .slice B2 x.rs.length d2] 47) (.cells #[.int .i64 s.pos, .int .i64 s.rule, .int .i64 s.node, .int .i64 s.time, .int .i64 s.dist, .int .i64 s.load, .slice (some az) s.s0.length g0, .slice S1 s.s1.length g1, .slice S2 s.s2.length g2] 49) (.cells #[.int .i64 0, .int .i64 0, .int .i64 0, .int .i64 0, .int .i64 0, .int .i64 0, .slice none 0 0, .slice none 0 0, .slice none 0 0] 49)
  have HGKC := sA (show w.heap.size ≤ w.heap.size from Nat.le_add_right _ 0)
  have HGKI := sA (show w.heap.size ≤ w.heap.size + 1 from Nat.le_add_right _ 1)
  have HGKS := sA (show w.heap.size ≤ w.heap.size + 1 + 1 from Nat.le_add_right _ 2)
  have HGKR := sA (show w.heap.size ≤ w.heap.size + 1 + 1 + 1 from Nat.le_add_right _ 3)
  have HSZ0 := sA (Nat.le_refl ((((w.alloc (.cells #[.int .i64 c.regs, .int .i64 c.slots, .slice A0 c.b0.length c0, .slice A1 c.b1.length c1, .slice A2 c.b2.length c2] 41)).alloc (.cells #[.slice B0 x.vs.length d0, .slice B1 x.qs.length d1, .slice B2 x.rs.length d2] 47)).alloc (.cells #[.int .i64 s.pos, .int .i64 s.rule, .int .i64 s.node, .int .i64 s.time, .int .i64 s.dist, .int .i64 s.load, .slice (some az) s.s0.length g0, .slice S1 s.s1.length g1, .slice S2 s.s2.length g2] 49)).alloc (.cells #[.int .i64 0, .int .i64 0, .int .i64 0, .int .i64 0, .int .i64 0, .int .i64 0, .slice none 0 0, .slice none 0 0, .slice none 0 0] 49)).heap.size)
  go_enter Tryz.func85, Tryz.ntmps85
  go_wp2_with fail
  go_at_call 80
  refine (impl_vehicles _ B0 B1 B2 x.vs.length x.qs.length x.rs.length d0 d1 d2 hsv).mono ?_
  rintro e w1 ⟨rfl, hb⟩
  have HB1 := sA (bC HB0.out hb); have HKC1 := sA (bB HKC0.out hb); have HKI1 := sA (bB HKI0.out hb); have HKS1 := sA (bB HKS0.out hb); have HKR1 := sA (bB HKR0.out hb); have HSZ1 := sA (Nat.le_trans HSZ0.out hb.size); clear hb
  obtain ⟨q0, q1, q2, q4, q5, qp⟩ := HQ.out
  have h := HKS1.out
  obtain ⟨ks1, ks2⟩ := lay0 h; clear h
  obtain ⟨kc1, kc2⟩ := lay0 HKC1.out
  obtain ⟨ki1, ki2⟩ := lay0 HKI1.out
  obtain ⟨kr1, kr2⟩ := lay0 HKR1.out
  have cZT := pC HB1.out ZT.out
  go_wp2_with ((with_reducible refine gate_store (t := 49) (p := 10) rfl ?_); refine wpList_putAll rfl rfl _ _ _ rfl (g := w.heap.size + 1 + 1 + 1) [.int .i64 (s.pos + 1), .int .i64 0, .int .i64 0, .int .i64 0, .int .i64 0, .int .i64 0, .slice none 0 0, .slice none 0 0, .slice none 0 0] rfl rfl (by kernel_rfl) (one_all rfl) HKR1.out rfl ?_; intro w2 hX hT hz; clear hz; clear kc1 kc2 ki1 ki2 kr1 kr2 cZT; (try simp only [List.setIfInBounds_toArray, List.set_cons_zero, List.set_cons_succ] at hX); have HB2 := sA (hT.below w (fun k hk => by rw [hk]; exact HGKR.out) HB1.out); have HKC2 := sA (tK hT HKR1.out HKC1.out (by decide)); have HKI2 := sA (tK hT HKR1.out HKI1.out (by decide)); have HSZ2 := sA (Nat.le_trans HSZ1.out hT.size); have HKR2 := sA hX; clear hX hT; obtain ⟨kc1, kc2⟩ := lay0 HKC2.out; obtain ⟨ki1, ki2⟩ := lay0 HKI2.out; obtain ⟨kr1, kr2⟩ := lay0 HKR2.out; have cZT := pC HB2.out ZT.out)
  clear kc1 kc2 ki1 ki2 kr1 kr2 cZT
  refine bodyPost_ret (results_cell Tryz.results85 rfl HKR2.out Tryz.underlying49 rfl (by kernel_rfl)) rfl ?_
  exact ⟨_, rfl, HL.out ▸ rstate_failed _ (s.pos + 1) 0, HB2.out⟩
set_option maxRecDepth 100000 in
set_option maxHeartbeats 8000000 in
theorem impl_step_go1 (c : Code) (A0 : Option Addr) (c0 : Nat) (A1 : Option Addr) (c1 : Nat) (A2 : Option Addr) (c2 : Nat) (x : Inst) (B0 : Option Addr) (d0 : Nat) (B1 : Option Addr) (d1 : Nat) (B2 : Option Addr) (d2 : Nat) (kv : Nat) (s : St) (S0 : Option Addr) (g0 : Nat) (S1 : Option Addr) (g1 : Nat) (S2 : Option Addr) (g2 : Nat) (h0 : kInt.R 2 w 0 (fun _ => True) (.slice S0 s.s0.length g0) s.s0) (h1 : kInt.R 2 w 0 (fun _ => True) (.slice S1 s.s1.length g1) s.s1) (h2 : kInt.R 2 w 0 (fun _ => True) (.slice S2 s.s2.length g2) s.s2) (hI : ReadInst w (.agg #[.slice B0 x.vs.length d0, .slice B1 x.qs.length d1, .slice B2 x.rs.length d2]) x) (hK : kIns.C w A1 c.b1.length c.b1) (hR : Run c x kv s) (hp : s.pos < 4096) (k j : Nat) (hj : j < x.qs.length) (hk : k = x.vs.length + (2 * j + 1)) (hy : atI s.s0 j = 1) :
    Calls Tryz.prog 85 #[.agg #[.int .i64 c.regs, .int .i64 c.slots, .slice A0 c.b0.length c0, .slice A1 c.b1.length c1, .slice A2 c.b2.length c2], .agg #[.slice B0 x.vs.length d0, .slice B1 x.qs.length d1, .slice B2 x.rs.length d2], .int .i64 kv, .agg #[.int .i64 s.pos, .int .i64 s.rule, .int .i64 s.node, .int .i64 s.time, .int .i64 s.dist, .int .i64 s.load, .slice S0 s.s0.length g0, .slice S1 s.s1.length g1, .slice S2 s.s2.length g2], .int .i64 k] w fun e w' => ∃ t, e = .returned t ∧ RState w' t (stepS c x kv s k) ∧ Below w.heap.size w w' := by
  replace h0 := (Kd.R_reads' h0).2.2; replace h1 := (Kd.R_reads' h1).2.2; replace h2 := (Kd.R_reads' h2).2.2
  have HS := sA (And.intro h0 (And.intro h1 h2)); have HR := sA hR; have HX := sA hI; have HK := sA hK
  have hge : decide (0 ≤ s.rule) = false := decide_eq_false (by have := hR.rule; omega)
  have hlt : decide (s.pos < 0) = false := decide_eq_false (by have := hR.p0; omega)
  have hxv := hR.val; have hcv := hR.cv; have hkv := hR.hv
  obtain ⟨f0, f1, f2, hnear⟩ := Inst.few_near hxv
  have hsv : x.vs.length ≤ 1048576 := by omega
  have hz0 := hR.z0; have hz1 := hR.z1; have hz2 := hR.z2
  obtain ⟨m, hm⟩ : ∃ m, m = 2 * j + 1 := ⟨_, rfl⟩
  have hk' : k = x.vs.length + m := by omega
  have hst : x.stop (k : Int) = true := by unfold Inst.stop Inst.nodes; exact (inB_iff _ _ _).2 ⟨by omega, by omega⟩
  have hrq : x.reqI k = (j : Int) ∧ ((k : Int) - x.vs.length).tmod 2 = 1 := by
    have e : ((k : Int) - x.vs.length) = ((2 * j + 1 : Nat) : Int) := by omega
    unfold Inst.reqI
    rw [e]
    refine ⟨?_, ?_⟩
    · show ((2 * j + 1 : Nat) : Int).tdiv ((2 : Nat) : Int) = _; rw [← Int.ofNat_tdiv]; omega
    · show ((2 * j + 1 : Nat) : Int).tmod ((2 : Nat) : Int) = _; rw [← Int.ofNat_tmod]; omega
  have HN := sA (And.intro hst hrq)
  have hjI : (j : Int) < (s.s0.length : Int) := by omega
  have hjN : j < s.s0.length := by omega
  have HJN := sA hjN
  obtain ⟨az, e0, z0⟩ := int_at h0 hjN
  cases e0
  have hcf := Code.facts hcv
  have hsl := slots_small hcv hxv
  have HSM := sA (show s.s0.length ≤ 1000000000 ∧ s.s1.length ≤ 1000000000 ∧ s.s2.length ≤ 1000000000 from ⟨by omega, by omega, by omega⟩)
  have HLN := sA (show 13 ≤ s.s1.length by omega); have HCF := sA hcf
  have HKM := sA (And.intro hm hk'); have HJQ := sA hj
  have HP4 := sA (show s.pos ≤ 4096 by omega)
  have HJ6 := sA (show wrap64 (j : Int) = (j : Int) from IntWalk.wrap64_in _ (by have := (Inst.few_of hxv).2.1; have := HJQ.out; omega))
  have q0 : IntKind.i64.wrap ((k : Int) - (x.vs.length : Int)) = (m : Int) := by rw [IntWalk.i64_in _ (by omega)]; omega
  clear h0 h1 h2 hI hK hnear hz0 hz1 hz2 hst hrq hcf hsl hk hk' hR hp
  have q1 : wrap64 ((m : Int) / 2) = (j : Int) := by rw [show (m : Int) / 2 = (j : Int) by omega]; exact IntWalk.wrap64_in _ (by omega)
  have q2 : wrap64 ((m : Int) % 2) = 1 := by rw [show (m : Int) % 2 = 1 by omega]; exact IntWalk.wrap64_in _ (by omega)
  have q4 : (m : Int) / 2 = (j : Int) := by omega
  have q5 : (m : Int) % 2 = 1 := by omega
  have qp : IntKind.i64.wrap (s.pos + 1) = s.pos + 1 := IntWalk.i64_in _ (by have := HR.out.p0; have := HP4.out; omega)
  have HQ := sA (And.intro q0 (And.intro q1 (And.intro q2 (And.intro q4 (And.intro q5 qp)))))
  clear q0 q1 q2 q4 q5 qp hm
  rw [hy] at z0
  have ZT := sA z0; clear z0
  have HY := sA hy; clear hy
  obtain ⟨HB0, HKC0, HKI0, HKS0, HKR0, HZ0⟩ := opens4 w (.cells #[.int .i64 c.regs, .int .i64 c.slots, .slice A0 c.b0.length c0, .slice A1 c.b1.length c1, .slice A2 c.b2.length c2] 41) (.cells #[.slice B0 x.vs.length d0, .slice B1 x.qs.length d1, .slice B2 x.rs.length d2] 47) (.cells #[.int .i64 s.pos, .int .i64 s.rule, .int .i64 s.node, .int .i64 s.time, .int .i64 s.dist, .int .i64 s.load, .slice (some az) s.s0.length g0, .slice S1 s.s1.length g1, .slice S2 s.s2.length g2] 49) (.cells #[.int .i64 0, .int .i64 0, .int .i64 0, .int .i64 0, .int .i64 0, .int .i64 0, .slice none 0 0, .slice none 0 0, .slice none 0 0] 49)
  have HGKC := sA (show w.heap.size ≤ w.heap.size from Nat.le_add_right _ 0)
  have HGKI := sA (show w.heap.size ≤ w.heap.size + 1 from Nat.le_add_right _ 1)
  have HGKS := sA (show w.heap.size ≤ w.heap.size + 1 + 1 from Nat.le_add_right _ 2)
  have HGKR := sA (show w.heap.size ≤ w.heap.size + 1 + 1 + 1 from Nat.le_add_right _ 3)
  have HSZ0 := sA (Nat.le_refl ((((w.alloc (.cells #[.int .i64 c.regs, .int .i64 c.slots, .slice A0 c.b0.length c0, .slice A1 c.b1.length c1, .slice A2 c.b2.length c2] 41)).alloc (.cells #[.slice B0 x.vs.length d0, .slice B1 x.qs.length d1, .slice B2 x.rs.length d2] 47)).alloc (.cells #[.int .i64 s.pos, .int .i64 s.rule, .int .i64 s.node, .int .i64 s.time, .int .i64 s.dist, .int .i64 s.load, .slice (some az) s.s0.length g0, .slice S1 s.s1.length g1, .slice S2 s.s2.length g2] 49)).alloc (.cells #[.int .i64 0, .int .i64 0, .int .i64 0, .int .i64 0, .int .i64 0, .int .i64 0, .slice none 0 0, .slice none 0 0, .slice none 0 0] 49)).heap.size)
  go_enter Tryz.func85, Tryz.ntmps85
  go_wp2_with fail
  go_at_call 80
  refine (impl_vehicles _ B0 B1 B2 x.vs.length x.qs.length x.rs.length d0 d1 d2 hsv).mono ?_
  rintro e w1 ⟨rfl, hb⟩
  have HB1 := sA (bC HB0.out hb); have HKC1 := sA (bB HKC0.out hb); have HKI1 := sA (bB HKI0.out hb); have HKS1 := sA (bB HKS0.out hb); have HKR1 := sA (bB HKR0.out hb); have HSZ1 := sA (Nat.le_trans HSZ0.out hb.size); clear hb
  obtain ⟨q0, q1, q2, q4, q5, qp⟩ := HQ.out
  obtain ⟨kc1, kc2⟩ := lay0 HKC1.out
  obtain ⟨ki1, ki2⟩ := lay0 HKI1.out
  obtain ⟨ks1, ks2⟩ := lay0 HKS1.out
  obtain ⟨kr1, kr2⟩ := lay0 HKR1.out
  have cZT := pC HB1.out ZT.out
  go_wp2_with fail
  clear kc1 kc2 ki1 ki2 ks1 ks2 kr1 kr2 cZT
  clear q0 q1 q2 q4 q5 qp
  go_at_call 67
  refine (impl_from w1 c A0 c0 A1 c1 A2 c2 x B0 d0 B1 d1 B2 d2 kv s (some az) g0 S1 g1 S2 g2 (Kd.C_below HS.out.1 HB1.out) (Kd.C_below HS.out.2.1 HB1.out) (Kd.C_below HS.out.2.2 HB1.out) (by have := HLN.out; omega) HSM.out.1 HSM.out.2.1 HSM.out.2.2).mono ?_
  rintro e w2 ⟨g, rfl, s0, ga, cR, s2, hF⟩
  have hb := hF.2.2.2.2.2.2.2.2.2
  have HF := sA hF; clear hF
  have HB2 := sA (bC HB1.out hb); have HKC2 := sA (bB HKC1.out hb); have HKI2 := sA (bB HKI1.out hb); have HKS2 := sA (bB HKS1.out hb); have HKR2 := sA (bB HKR1.out hb); have HSZ2 := sA (Nat.le_trans HSZ1.out hb.size); clear hb
  obtain ⟨gs, qs, e0, hgs, _, _⟩ := Kd.R_form HF.out.2.2.2.1 (by have := HJN.out; omega)
  subst e0
  have HGS := sA hgs; clear hgs
  go_wp2_with fail
  go_at_call 68
  obtain ⟨f1, f2, f3, f4, f5, f6, f7, f8, f9, fb⟩ := HF.out
  refine (impl_arrive_stop w2 w1 g ga s.s1.length cR s.pos s.node s.time s.dist s.load (.int .i64 c.regs) (.int .i64 c.slots) (.slice A0 c.b0.length c0) (.slice A1 c.b1.length c1) (.slice A2 c.b2.length c2) B0 d0 B1 d1 B2 d2 x kv (-1) _ s2 0 s.s1 s.s2 s.s0 (HX.out.below HB1.out) hxv hkv fb f1 f2 f3 f5 f6 f4 f7 f8 HLN.out HR.out.n0 HR.out.n1 HR.out.p0 HP4.out s ⟨rfl, rfl, rfl, rfl, rfl⟩ k m j 1 HJQ.out (by decide) HKM.out.1 HKM.out.2 false true rfl rfl).mono ?_
  clear f1 f2 f3 f4 f5 f6 f7 f8 f9 fb
  rintro e w3 ⟨rfl, hba, hg2, hr2, hs2, ht2⟩
  have HKG3 := sA hg2; have HRa3 := sA hr2; have HRb3 := sA hs2; have HRc3 := sA ht2; clear hg2 hr2 hs2 ht2
  have HB3 := sA (bC HB1.out hba); have HKC3 := sA (bB HKC1.out hba); have HKI3 := sA (bB HKI1.out hba); have HKS3 := sA (bB HKS1.out hba); have HKR3 := sA (bB HKR1.out hba); have HSZ3 := sA (Nat.le_trans HSZ1.out hba.size)
  have HBa3 := sA hba; clear hba
  have hfc := HKG3.out
  generalize hnt : maxI (x.placeAt k).o (nextArr x s k) = nt at hfc
  generalize hnd : satAdd s.dist (x.leg s.node k) = nd at hfc
  generalize hnl : satAdd s.load ((bitI (x.pick k) - bitI (x.dropB k)) * x.sizeAt k) = nl at hfc
  have HNX := sA (And.intro hnt (And.intro hnd hnl)); clear hnt hnd hnl
  unfold frameC at hfc
  clear HKG3
  have HKG3 := sA hfc
  obtain ⟨kg1, kg2⟩ := lay0 hfc; clear hfc
  obtain ⟨ae, ee, ze⟩ := int_at (Kd.R_reads' HRc3.out).2.2 HJN.out
  cases ee
  have zf : w3.cell? ⟨gs, j, none⟩ = some (.int .i64 1) := by rw [← HY.out, ← ze]; unfold Addr.add; split; (rename_i h; rw [h]); simp
  clear ze
  obtain ⟨q0, q1, q2, q4, q5, qp⟩ := HQ.out
  have qw : IntKind.i64.wrap 2 = 2 := rfl
  have q6 := HJ6.out
  obtain ⟨kc1, kc2⟩ := lay0 HKC3.out
  obtain ⟨ki1, ki2⟩ := lay0 HKI3.out
  go_wp2_with ((with_reducible refine gate_store (t := 2) (p := 56) rfl ?_); refine Kd.flat_store kInt rfl rfl rfl 2 _ _ rfl j 2 rfl (by simp) rfl (by kernel_rfl) HRc3.out HJN.out HBa3.out ?_; intro w4 hr3 hb3 hg3; clear kg1 kg2 zf q0 q1 q2 q4 q5 q6 qp qw kc1 kc2 ki1 ki2; have hT : Tch (fun k => k = gs) w3 w4 := Tch.grown hg3 rfl hg3.size; obtain ⟨ck, hck⟩ := own_blk HRc3.out rfl; have HKG4 := sA (tK hT hck HKG3.out (by decide)); have HRa4 := sA (int_keep HRa3.out fun b hk hl => hT.same b hl (fun e => HF.out.2.2.2.2.2.2.2.1 (by have h1 : some ga = some b := hk; rw [e] at h1; exact h1.symm))); have HRb4 := sA (int_keep HRb3.out fun b hk hl => hT.same b hl (fun e => HF.out.2.2.2.2.2.2.2.2.1 gs rfl (hk.trans (congrArg some e)))); have HRc4 := sA hr3; have HB4 := sA (bC HB1.out hb3); have HKC4 := sA (bB HKC1.out hb3); have HKI4 := sA (bB HKI1.out hb3); have HKR4 := sA (bB HKR1.out hb3); have HSZ4 := sA (Nat.le_trans HSZ1.out hb3.size); have HBa4 := sA hb3; clear hT hck hr3 hg3 hb3 ck; obtain ⟨kc1, kc2⟩ := lay0 HKC4.out; obtain ⟨ki1, ki2⟩ := lay0 HKI4.out)
  clear kc1 kc2 ki1 ki2
  go_at_call 69
  have HMI : MInv w1 (fun br => frameC (s.pos + 1) k nt nd nl (.int .i64 c.regs) (.int .i64 c.slots) (.slice A0 c.b0.length c0) (.slice A1 c.b1.length c1) (.slice A2 c.b2.length c2) (.slice B0 x.vs.length d0) (.slice B1 x.qs.length d1) (.slice B2 x.rs.length d2) kv j (.slice (some ⟨gs, 0, none⟩) s.s0.length qs) (.slice (some ⟨ga, 0, none⟩) s.s1.length cR) s2 br) g ga s.s1.length cR s2 (.slice (some ⟨gs, 0, none⟩) s.s0.length qs) (s.s0.set j 2) w4 (stepM x kv s k) := ⟨HBa4.out, HF.out.2.1, HF.out.2.2.1, by show (nextA x kv s k ++ s.s1.drop 13).length = _; rw [List.length_append, nextA_len, List.length_drop]; have := HLN.out; omega, HKG4.out, HRa4.out, HRb4.out, HF.out.2.2.2.2.2.2.1, HRc4.out, HF.out.2.2.2.2.2.2.2.1, HF.out.2.2.2.2.2.2.2.2.1⟩
  have hXI := HX.out.below HB1.out
  obtain ⟨C0, k0, C1, k1, C2, k2, he, b0, b1, b2⟩ := hXI; clear b2
  have he1 : B0 = C0 ∧ B1 = C1 := by injection he with he; simp at he; exact ⟨he.1.1, he.2.1.1⟩
  obtain ⟨rfl, rfl⟩ := he1
  refine (impl_run w4 w1 (s.pos + 1) k nt nd nl (.int .i64 c.regs) (.int .i64 c.slots) (.slice A0 c.b0.length c0) (.slice A1 c.b1.length c1) (.slice A2 c.b2.length c2) B0 d0 B1 d1 B2 d2 x kv j (.slice (some ⟨gs, 0, none⟩) s.s0.length qs) s2 g ga s.s1.length cR c.regs c.slots (stepM x kv s k) (s.s0.set j 2) HMI (by have h := HR.out.step HN.out.1; rw [HN.out.2.1] at h; exact h) b0 b1 hxv hkv HCF.out.2.2.1 HCF.out.2.2.2.1 rfl HCF.out.1 A1 c1 c.b1 (Kd.C_below HK.out HB1.out) HCF.out.2.2.2.2.2.1).mono ?_
  clear HMI b0 b1 he
  rintro e w5 ⟨rfl, hM⟩
  have hba := hM.bel
  have HM := sA hM; clear hM
  have hrl : (runB (envOf x kv j) c.b1 (stepM x kv s k)).rule = -1 ∨ (1 ≤ (runB (envOf x kv j) c.b1 (stepM x kv s k)).rule ∧ (runB (envOf x kv j) c.b1 (stepM x kv s k)).rule ≤ 100) := rule_of HCF.out.2.2.2.2.2.1 rfl
  have HB5 := sA (bC HB1.out hba); have HKC5 := sA (bB HKC1.out hba); have HKI5 := sA (bB HKI1.out hba); have HKR5 := sA (bB HKR1.out hba); have HSZ5 := sA (Nat.le_trans HSZ1.out hba.size)
  clear hba
  have HST := sA (show stepS c x kv s k = if 0 ≤ (runB (envOf x kv j) c.b1 (stepM x kv s k)).rule then failS (s.pos + 1) (runB (envOf x kv j) c.b1 (stepM x kv s k)).rule else goS x kv s k (runB (envOf x kv j) c.b1 (stepM x kv s k)) by
    unfold stepS
    rw [if_neg (by have := HR.out.rule; omega), HN.out.2.1, HN.out.2.2, HY.out, if_neg (by decide)])
  have hln := HM.out.ln
  generalize runB (envOf x kv j) c.b1 (stepM x kv s k) = mF at *
  obtain ⟨R2, q2, e2⟩ := Kd.R_slice HM.out.r2
  subst e2
  have HLM := sA hln; clear hln
  have HRa5 := sA HM.out.r1; have HRb5 := sA HM.out.r2; have HRc5 := sA HM.out.r0
  rcases hrl with hr | ⟨hr1, hr2⟩
  ·
    have HL := sA (show stepS c x kv s k = goS x kv s k mF by rw [HST.out, if_neg (by omega)]); have HBR := sA (show brk mF.rule = 0 by unfold brk; rw [if_pos (by omega)]); clear hr
    obtain ⟨kc1, kc2⟩ := lay0 HKC5.out
    obtain ⟨ki1, ki2⟩ := lay0 HKI5.out
    obtain ⟨kr1, kr2⟩ := lay0 HKR5.out
    go_wp2_with fail
    clear kc1 kc2 ki1 ki2 kr1 kr2
    go_at_call 120
    have hfr := HM.out.fr
    rw [HBR.out] at hfr
    refine (impl_state_good _ _ _ _ _ _ _ _ _ _ _ _ _ _ _ _ _ _ _ _ _ _ _ _ _ _ _ hfr rfl).mono ?_
    rintro e w6 ⟨rfl, hb⟩
    clear hfr
    have HB6 := sA (bC HB5.out hb); have HKC6 := sA (bB HKC5.out hb); have HKI6 := sA (bB HKI5.out hb); have HKR6 := sA (bB HKR5.out hb); have HRa6 := sA (Kd.R_below HRa5.out hb); have HRb6 := sA (Kd.R_below HRb5.out hb); have HRc6 := sA (Kd.R_below HRc5.out hb); have HSZ6 := sA (Nat.le_trans HSZ5.out hb.size); clear hb
    obtain ⟨kc1, kc2⟩ := lay0 HKC6.out
    obtain ⟨ki1, ki2⟩ := lay0 HKI6.out
    obtain ⟨kr1, kr2⟩ := lay0 HKR6.out
    go_wp2_with ((with_reducible refine gate_store (t := 49) (p := 10) rfl ?_); refine wpList_putAll rfl rfl _ _ _ rfl (g := w.heap.size + 1 + 1 + 1) [.int .i64 (s.pos + 1), .int .i64 (-1), .int .i64 k, .int .i64 nt, .int .i64 nd, .int .i64 nl, .slice (some ⟨gs, 0, none⟩) s.s0.length qs, .slice (some ⟨ga, 0, none⟩) s.s1.length cR, .slice R2 mF.slots.length q2] rfl rfl (by kernel_rfl) (one_all rfl) HKR6.out rfl ?_; intro w7 hX hT hz; clear hz; clear kc1 kc2 ki1 ki2 kr1 kr2; (try simp only [List.setIfInBounds_toArray, List.set_cons_zero, List.set_cons_succ] at hX); have HB7 := sA (hT.below w (fun k hk => by rw [hk]; exact HGKR.out) HB6.out); have HKC7 := sA (tK hT HKR6.out HKC6.out (by decide)); have HKI7 := sA (tK hT HKR6.out HKI6.out (by decide)); have HRa7 := sA (row_tch HRa6.out hT HKR6.out (by decide)); have HRb7 := sA (row_tch HRb6.out hT HKR6.out (by decide)); have HRc7 := sA (row_tch HRc6.out hT HKR6.out (by decide)); have HSZ7 := sA (Nat.le_trans HSZ6.out hT.size); have HKR7 := sA hX; clear hX hT; obtain ⟨kc1, kc2⟩ := lay0 HKC7.out; obtain ⟨ki1, ki2⟩ := lay0 HKI7.out; obtain ⟨kr1, kr2⟩ := lay0 HKR7.out)
    clear kc1 kc2 ki1 ki2 kr1 kr2
    refine bodyPost_ret (results_cell Tryz.results85 rfl HKR7.out Tryz.underlying49 rfl (by kernel_rfl)) rfl ?_
    refine ⟨_, rfl, ?_, HB7.out⟩
    rw [HL.out]
    unfold goS
    rw [HNX.out.1, HNX.out.2.1, HNX.out.2.2, HN.out.2.1, HY.out]
    exact ⟨_, _, _, rfl, Kd.R_lower (show kInt.R 2 _ _ _ _ (putI s.s0 j 2) from HRc7.out) (Nat.zero_le _), Kd.R_lower HRa7.out (Nat.zero_le _), Kd.R_lower HRb7.out (Nat.zero_le _)⟩
  ·
    have HL := sA (show stepS c x kv s k = failS (s.pos + 1) mF.rule by rw [HST.out, if_pos (by omega)]); have HBR := sA (show brk mF.rule = mF.rule by unfold brk; rw [if_neg (by omega)]); have HRP := sA (show 0 < mF.rule by omega); clear hr1 hr2
    obtain ⟨kc1, kc2⟩ := lay0 HKC5.out
    obtain ⟨ki1, ki2⟩ := lay0 HKI5.out
    obtain ⟨kr1, kr2⟩ := lay0 HKR5.out
    go_wp2_with fail
    clear kc1 kc2 ki1 ki2 kr1 kr2
    go_at_call 120
    have hfr := HM.out.fr
    rw [HBR.out] at hfr
    refine (impl_state_bad _ _ _ _ _ _ _ _ _ _ _ _ _ _ _ _ _ _ _ _ _ _ _ _ _ _ _ hfr HRP.out).mono ?_
    rintro e w6 ⟨rfl, hb⟩
    clear hfr
    have HB6 := sA (bC HB5.out hb); have HKC6 := sA (bB HKC5.out hb); have HKI6 := sA (bB HKI5.out hb); have HKR6 := sA (bB HKR5.out hb); have HRa6 := sA (Kd.R_below HRa5.out hb); have HRb6 := sA (Kd.R_below HRb5.out hb); have HRc6 := sA (Kd.R_below HRc5.out hb); have HSZ6 := sA (Nat.le_trans HSZ5.out hb.size); clear hb
    obtain ⟨kc1, kc2⟩ := lay0 HKC6.out
    obtain ⟨ki1, ki2⟩ := lay0 HKI6.out
    obtain ⟨kr1, kr2⟩ := lay0 HKR6.out
    go_wp2_with ((with_reducible refine gate_store (t := 49) (p := 10) rfl ?_); refine wpList_putAll rfl rfl _ _ _ rfl (g := w.heap.size + 1 + 1 + 1) [.int .i64 (s.pos + 1), .int .i64 mF.rule, .int .i64 0, .int .i64 0, .int .i64 0, .int .i64 0, .slice none 0 0, .slice none 0 0, .slice none 0 0] rfl rfl (by kernel_rfl) (one_all rfl) HKR6.out rfl ?_; intro w7 hX hT hz; clear hz; clear kc1 kc2 ki1 ki2 kr1 kr2; (try simp only [List.setIfInBounds_toArray, List.set_cons_zero, List.set_cons_succ] at hX); have HB7 := sA (hT.below w (fun k hk => by rw [hk]; exact HGKR.out) HB6.out); have HKC7 := sA (tK hT HKR6.out HKC6.out (by decide)); have HKI7 := sA (tK hT HKR6.out HKI6.out (by decide)); have HRa7 := sA (row_tch HRa6.out hT HKR6.out (by decide)); have HRb7 := sA (row_tch HRb6.out hT HKR6.out (by decide)); have HRc7 := sA (row_tch HRc6.out hT HKR6.out (by decide)); have HSZ7 := sA (Nat.le_trans HSZ6.out hT.size); have HKR7 := sA hX; clear hX hT; obtain ⟨kc1, kc2⟩ := lay0 HKC7.out; obtain ⟨ki1, ki2⟩ := lay0 HKI7.out; obtain ⟨kr1, kr2⟩ := lay0 HKR7.out)
    clear kc1 kc2 ki1 ki2 kr1 kr2
    refine bodyPost_ret (results_cell Tryz.results85 rfl HKR7.out Tryz.underlying49 rfl (by kernel_rfl)) rfl ?_
    exact ⟨_, rfl, HL.out ▸ rstate_failed _ (s.pos + 1) mF.rule, HB7.out⟩
set_option maxRecDepth 100000 in
set_option maxHeartbeats 8000000 in
theorem impl_step_bad1 (c : Code) (A0 : Option Addr) (c0 : Nat) (A1 : Option Addr) (c1 : Nat) (A2 : Option Addr) (c2 : Nat) (x : Inst) (B0 : Option Addr) (d0 : Nat) (B1 : Option Addr) (d1 : Nat) (B2 : Option Addr) (d2 : Nat) (kv : Nat) (s : St) (S0 : Option Addr) (g0 : Nat) (S1 : Option Addr) (g1 : Nat) (S2 : Option Addr) (g2 : Nat) (h0 : kInt.R 2 w 0 (fun _ => True) (.slice S0 s.s0.length g0) s.s0) (h1 : kInt.R 2 w 0 (fun _ => True) (.slice S1 s.s1.length g1) s.s1) (h2 : kInt.R 2 w 0 (fun _ => True) (.slice S2 s.s2.length g2) s.s2) (hI : ReadInst w (.agg #[.slice B0 x.vs.length d0, .slice B1 x.qs.length d1, .slice B2 x.rs.length d2]) x) (hK : kIns.C w A1 c.b1.length c.b1) (hR : Run c x kv s) (hp : s.pos < 4096) (k j : Nat) (hj : j < x.qs.length) (hk : k = x.vs.length + (2 * j + 1)) (hy : atI s.s0 j ≠ 1) :
    Calls Tryz.prog 85 #[.agg #[.int .i64 c.regs, .int .i64 c.slots, .slice A0 c.b0.length c0, .slice A1 c.b1.length c1, .slice A2 c.b2.length c2], .agg #[.slice B0 x.vs.length d0, .slice B1 x.qs.length d1, .slice B2 x.rs.length d2], .int .i64 kv, .agg #[.int .i64 s.pos, .int .i64 s.rule, .int .i64 s.node, .int .i64 s.time, .int .i64 s.dist, .int .i64 s.load, .slice S0 s.s0.length g0, .slice S1 s.s1.length g1, .slice S2 s.s2.length g2], .int .i64 k] w fun e w' => ∃ t, e = .returned t ∧ RState w' t (stepS c x kv s k) ∧ Below w.heap.size w w' := by
  replace h0 := (Kd.R_reads' h0).2.2; replace h1 := (Kd.R_reads' h1).2.2; replace h2 := (Kd.R_reads' h2).2.2
  have HS := sA (And.intro h0 (And.intro h1 h2)); have HR := sA hR; have HX := sA hI; have HK := sA hK
  have hge : decide (0 ≤ s.rule) = false := decide_eq_false (by have := hR.rule; omega)
  have hlt : decide (s.pos < 0) = false := decide_eq_false (by have := hR.p0; omega)
  have hxv := hR.val; have hcv := hR.cv; have hkv := hR.hv
  obtain ⟨f0, f1, f2, hnear⟩ := Inst.few_near hxv
  have hsv : x.vs.length ≤ 1048576 := by omega
  have hz0 := hR.z0; have hz1 := hR.z1; have hz2 := hR.z2
  obtain ⟨m, hm⟩ : ∃ m, m = 2 * j + 1 := ⟨_, rfl⟩
  have hk' : k = x.vs.length + m := by omega
  have hst : x.stop (k : Int) = true := by unfold Inst.stop Inst.nodes; exact (inB_iff _ _ _).2 ⟨by omega, by omega⟩
  have hrq : x.reqI k = (j : Int) ∧ ((k : Int) - x.vs.length).tmod 2 = 1 := by
    have e : ((k : Int) - x.vs.length) = ((2 * j + 1 : Nat) : Int) := by omega
    unfold Inst.reqI
    rw [e]
    refine ⟨?_, ?_⟩
    · show ((2 * j + 1 : Nat) : Int).tdiv ((2 : Nat) : Int) = _; rw [← Int.ofNat_tdiv]; omega
    · show ((2 * j + 1 : Nat) : Int).tmod ((2 : Nat) : Int) = _; rw [← Int.ofNat_tmod]; omega
  have HN := sA (And.intro hst hrq)
  have hjI : (j : Int) < (s.s0.length : Int) := by omega
  have hjN : j < s.s0.length := by omega
  have HJN := sA hjN
  obtain ⟨az, e0, z0⟩ := int_at h0 hjN
  cases e0
  have hcf := Code.facts hcv
  have hsl := slots_small hcv hxv
  have HSM := sA (show s.s0.length ≤ 1000000000 ∧ s.s1.length ≤ 1000000000 ∧ s.s2.length ≤ 1000000000 from ⟨by omega, by omega, by omega⟩)
  have HLN := sA (show 13 ≤ s.s1.length by omega); have HCF := sA hcf
  have HKM := sA (And.intro hm hk'); have HJQ := sA hj
  have HP4 := sA (show s.pos ≤ 4096 by omega)
  have HJ6 := sA (show wrap64 (j : Int) = (j : Int) from IntWalk.wrap64_in _ (by have := (Inst.few_of hxv).2.1; have := HJQ.out; omega))
  have q0 : IntKind.i64.wrap ((k : Int) - (x.vs.length : Int)) = (m : Int) := by rw [IntWalk.i64_in _ (by omega)]; omega
  clear h0 h1 h2 hI hK hnear hz0 hz1 hz2 hst hrq hcf hsl hk hk' hR hp
  have q1 : wrap64 ((m : Int) / 2) = (j : Int) := by rw [show (m : Int) / 2 = (j : Int) by omega]; exact IntWalk.wrap64_in _ (by omega)
  have q2 : wrap64 ((m : Int) % 2) = 1 := by rw [show (m : Int) % 2 = 1 by omega]; exact IntWalk.wrap64_in _ (by omega)
  have q4 : (m : Int) / 2 = (j : Int) := by omega
  have q5 : (m : Int) % 2 = 1 := by omega
  have qp : IntKind.i64.wrap (s.pos + 1) = s.pos + 1 := IntWalk.i64_in _ (by have := HR.out.p0; have := HP4.out; omega)
  have HQ := sA (And.intro q0 (And.intro q1 (And.intro q2 (And.intro q4 (And.intro q5 qp)))))
  clear q0 q1 q2 q4 q5 qp hm
  have HL := sA (show stepS c x kv s k = failS (s.pos + 1) 0 by unfold stepS; rw [if_neg (by have := HR.out.rule; omega), HN.out.2.1, HN.out.2.2, if_pos hy])
  generalize atI s.s0 j = y at hy z0
  have ZT := sA z0; clear z0
  have y1 : (y == 1) = false := beq_eq_false_iff_ne.2 hy
  have y2 : decide (y = 1) = false := decide_eq_false hy
  have y3 : (y != 1) = true := bne_iff_ne.2 hy
  have y4 : (!decide (y = 1)) = true := by rw [y2]; rfl
  clear hy
  obtain ⟨HB0, HKC0, HKI0, HKS0, HKR0, HZ0⟩ := opens4 w (.cells #[.int .i64 c.regs, .int .i64 c.slots, .slice A0 c.b0.length c0, .slice A1 c.b1.length c1, .slice A2 c.b2.length c2] 41) (.cells #[.slice B0 x.vs.length d0, .slice B1 x.qs.length d1, .slice B2 x.rs.length d2] 47) (.cells #[.int .i64 s.pos, .int .i64 s.rule, .int .i64 s.node, .int .i64 s.time, .int .i64 s.dist, .int .i64 s.load, .slice (some az) s.s0.length g0, .slice S1 s.s1.length g1, .slice S2 s.s2.length g2] 49) (.cells #[.int .i64 0, .int .i64 0, .int .i64 0, .int .i64 0, .int .i64 0, .int .i64 0, .slice none 0 0, .slice none 0 0, .slice none 0 0] 49)
  have HGKC := sA (show w.heap.size ≤ w.heap.size from Nat.le_add_right _ 0)
  have HGKI := sA (show w.heap.size ≤ w.heap.size + 1 from Nat.le_add_right _ 1)
  have HGKS := sA (show w.heap.size ≤ w.heap.size + 1 + 1 from Nat.le_add_right _ 2)
  have HGKR := sA (show w.heap.size ≤ w.heap.size + 1 + 1 + 1 from Nat.le_add_right _ 3)
  have HSZ0 := sA (Nat.le_refl ((((w.alloc (.cells #[.int .i64 c.regs, .int .i64 c.slots, .slice A0 c.b0.length c0, .slice A1 c.b1.length c1, .slice A2 c.b2.length c2] 41)).alloc (.cells #[.slice B0 x.vs.length d0, .slice B1 x.qs.length d1, .slice B2 x.rs.length d2] 47)).alloc (.cells #[.int .i64 s.pos, .int .i64 s.rule, .int .i64 s.node, .int .i64 s.time, .int .i64 s.dist, .int .i64 s.load, .slice (some az) s.s0.length g0, .slice S1 s.s1.length g1, .slice S2 s.s2.length g2] 49)).alloc (.cells #[.int .i64 0, .int .i64 0, .int .i64 0, .int .i64 0, .int .i64 0, .int .i64 0, .slice none 0 0, .slice none 0 0, .slice none 0 0] 49)).heap.size)
  go_enter Tryz.func85, Tryz.ntmps85
  go_wp2_with fail
  go_at_call 80
  refine (impl_vehicles _ B0 B1 B2 x.vs.length x.qs.length x.rs.length d0 d1 d2 hsv).mono ?_
  rintro e w1 ⟨rfl, hb⟩
  have HB1 := sA (bC HB0.out hb); have HKC1 := sA (bB HKC0.out hb); have HKI1 := sA (bB HKI0.out hb); have HKS1 := sA (bB HKS0.out hb); have HKR1 := sA (bB HKR0.out hb); have HSZ1 := sA (Nat.le_trans HSZ0.out hb.size); clear hb
  obtain ⟨q0, q1, q2, q4, q5, qp⟩ := HQ.out
  have h := HKS1.out
  obtain ⟨ks1, ks2⟩ := lay0 h; clear h
  obtain ⟨kc1, kc2⟩ := lay0 HKC1.out
  obtain ⟨ki1, ki2⟩ := lay0 HKI1.out
  obtain ⟨kr1, kr2⟩ := lay0 HKR1.out
  have cZT := pC HB1.out ZT.out
  go_wp2_with ((with_reducible refine gate_store (t := 49) (p := 10) rfl ?_); refine wpList_putAll rfl rfl _ _ _ rfl (g := w.heap.size + 1 + 1 + 1) [.int .i64 (s.pos + 1), .int .i64 0, .int .i64 0, .int .i64 0, .int .i64 0, .int .i64 0, .slice none 0 0, .slice none 0 0, .slice none 0 0] rfl rfl (by kernel_rfl) (one_all rfl) HKR1.out rfl ?_; intro w2 hX hT hz; clear hz; clear kc1 kc2 ki1 ki2 kr1 kr2 cZT; (try simp only [List.setIfInBounds_toArray, List.set_cons_zero, List.set_cons_succ] at hX); have HB2 := sA (hT.below w (fun k hk => by rw [hk]; exact HGKR.out) HB1.out); have HKC2 := sA (tK hT HKR1.out HKC1.out (by decide)); have HKI2 := sA (tK hT HKR1.out HKI1.out (by decide)); have HSZ2 := sA (Nat.le_trans HSZ1.out hT.size); have HKR2 := sA hX; clear hX hT; obtain ⟨kc1, kc2⟩ := lay0 HKC2.out; obtain ⟨ki1, ki2⟩ := lay0 HKI2.out; obtain ⟨kr1, kr2⟩ := lay0 HKR2.out; have cZT := pC HB2.out ZT.out)
  clear kc1 kc2 ki1 ki2 kr1 kr2 cZT
  refine bodyPost_ret (results_cell Tryz.results85 rfl HKR2.out Tryz.underlying49 rfl (by kernel_rfl)) rfl ?_
  exact ⟨_, rfl, HL.out ▸ rstate_failed _ (s.pos + 1) 0, HB2.out⟩
theorem impl_step (c : Code) (A0 : Option Addr) (c0 : Nat) (A1 : Option Addr) (c1 : Nat) (A2 : Option Addr) (c2 : Nat) (x : Inst) (B0 : Option Addr) (d0 : Nat) (B1 : Option Addr) (d1 : Nat) (B2 : Option Addr) (d2 : Nat) (kv : Nat) (s : St) (S0 : Option Addr) (g0 : Nat) (S1 : Option Addr) (g1 : Nat) (S2 : Option Addr) (g2 : Nat) (h0 : kInt.R 2 w 0 (fun _ => True) (.slice S0 s.s0.length g0) s.s0) (h1 : kInt.R 2 w 0 (fun _ => True) (.slice S1 s.s1.length g1) s.s1) (h2 : kInt.R 2 w 0 (fun _ => True) (.slice S2 s.s2.length g2) s.s2) (hI : ReadInst w (.agg #[.slice B0 x.vs.length d0, .slice B1 x.qs.length d1, .slice B2 x.rs.length d2]) x) (hK : kIns.C w A1 c.b1.length c.b1) (i : Nat) (hR : Fine c x kv s i) (hp : i < 4096) (n : Int) (hn : x.stop n = true) :
    Calls Tryz.prog 85 #[.agg #[.int .i64 c.regs, .int .i64 c.slots, .slice A0 c.b0.length c0, .slice A1 c.b1.length c1, .slice A2 c.b2.length c2], .agg #[.slice B0 x.vs.length d0, .slice B1 x.qs.length d1, .slice B2 x.rs.length d2], .int .i64 kv, .agg #[.int .i64 s.pos, .int .i64 s.rule, .int .i64 s.node, .int .i64 s.time, .int .i64 s.dist, .int .i64 s.load, .slice S0 s.s0.length g0, .slice S1 s.s1.length g1, .slice S2 s.s2.length g2], .int .i64 n] w fun e w' => ∃ t, e = .returned t ∧ RState w' t (stepS c x kv s n) ∧ Below w.heap.size w w' := by
  rcases hR with ⟨p, r, e, h1', h2', h3', h4'⟩ | ⟨hR, hpos, _⟩
  · have hr : 0 ≤ s.rule := by rw [e]; exact h1'
    have e : stepS c x kv s n = s := by unfold stepS; rw [if_pos hr]
    rw [e]
    exact impl_step_failed w c A0 c0 A1 c1 A2 c2 x B0 d0 B1 d1 B2 d2 kv s S0 g0 S1 g1 S2 g2 h0 h1 h2 hI hK hr n
  · obtain ⟨q, d, hq, hd, e, _, _⟩ := Inst.stop_bd hn
    have hp' : s.pos < 4096 := by omega
    obtain ⟨k, rfl⟩ : ∃ k : Nat, n = k := ⟨x.vs.length + (2 * q + d), by omega⟩
    rcases (show d = 0 ∨ d = 1 by omega) with rfl | rfl
    · by_cases hy : atI s.s0 q = 0
      · exact impl_step_go0 w c A0 c0 A1 c1 A2 c2 x B0 d0 B1 d1 B2 d2 kv s S0 g0 S1 g1 S2 g2 h0 h1 h2 hI hK hR hp' k q hq (by omega) hy
      · exact impl_step_bad0 w c A0 c0 A1 c1 A2 c2 x B0 d0 B1 d1 B2 d2 kv s S0 g0 S1 g1 S2 g2 h0 h1 h2 hI hK hR hp' k q hq (by omega) hy
    · by_cases hy : atI s.s0 q = 1
      · exact impl_step_go1 w c A0 c0 A1 c1 A2 c2 x B0 d0 B1 d1 B2 d2 kv s S0 g0 S1 g1 S2 g2 h0 h1 h2 hI hK hR hp' k q hq (by omega) hy
      · exact impl_step_bad1 w c A0 c0 A1 c1 A2 c2 x B0 d0 B1 d1 B2 d2 kv s S0 g0 S1 g1 S2 g2 h0 h1 h2 hI hK hR hp' k q hq (by omega) hy
end
end Go.Proofs.YtlhpbpkefkabgaaGreat.L1
