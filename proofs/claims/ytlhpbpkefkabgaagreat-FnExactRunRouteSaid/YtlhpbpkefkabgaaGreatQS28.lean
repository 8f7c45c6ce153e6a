/- StepState of the reference, for a good state and a stop. -/
import Derived.Test.YtlhpbpkefkabgaaGreatQS27
namespace Go.Proofs.YtlhpbpkefkabgaaGreat.L1
open Go.RowKit Go.Proofs.YtlhpbpkefkabgaaGreatW.PrintWords Go.Proofs.YtlhpbpkefkabgaaGreat.B
set_option linter.unusedVariables false
set_option linter.unusedSimpArgs false
attribute [local go_sem] mk_cell mk_frozen
section
variable (w : World)
set_option maxRecDepth 100000 in
set_option maxHeartbeats 8000000 in
theorem spec_StepState_failed (u v1 t : Value) (c : Code) (hc : ReadCode w u c) (x : Inst) (hx : ReadInst w v1 x) (kv : Nat) (s : St) (F : Nat → Prop) (hs : ReadStN w t s F) (hF : ∀ b, F b → b < w.heap.size) (hsm : s.small) (hok : stateOk c x kv s = true) (hs' : s = failS s.pos s.rule) (hp : s.pos ≠ -1) (hr : 0 ≤ s.rule) (n : Int) :
    Calls Tryz.prog 76 #[u, v1, .int .i64 kv, t, .int .i64 n] w fun e w' => ∃ t', e = .returned t' ∧ ReadStN w' t' s F ∧ Below w.heap.size w w' := by
  have HX := sA (And.intro hc (And.intro hx hs.readC.read))
  have hpos : (s.pos == -1) = false := beq_eq_false_iff_ne.2 hp
  have hpos2 : decide (s.pos = -1) = false := decide_eq_false hp
  have hru : decide (0 ≤ s.rule) = true := decide_eq_true hr
  have hvs : ∀ (W : World) (u v1 t : Value), ReadCode W u c → ReadInst W v1 x → ReadState W t s → Calls Tryz.prog 26 #[u, v1, .int .i64 kv, t] W fun e w' => e = .returned (.bool true) ∧ Below W.heap.size W w' := fun W u v1 t h1 h2 h3 => hok ▸ spec_ValidState W u v1 t c h1 x h2 kv s h3 hsm
  have HVS := sA hvs; clear hvs
  have HL := sA hs'
  obtain ⟨A0, c0, A1, c1, A2, c2, rfl, a0, a1, a2⟩ := hc
  obtain ⟨B0, d0, B1, d1, B2, d2, rfl, b0, b1, b2⟩ := hx
  obtain ⟨S0, g0, S1, g1, S2, g2, rfl, s0, s1, s2, hcap, n0, n1, n2⟩ := hs
  have HNI := sA n2; have HFF := sA hF; clear n0 n1 n2 hF
  clear a0 a1 a2 b0 b1 b2 s0 s1 s2 hs' hok hsm hp hr
  obtain ⟨HB0, HKC0, HKI0, HKS0, HKR0, HZ0⟩ := opens4 w (.cells #[.int .i64 c.regs, .int .i64 c.slots, .slice A0 c.b0.length c0, .slice A1 c.b1.length c1, .slice A2 c.b2.length c2] 41) (.cells #[.slice B0 x.vs.length d0, .slice B1 x.qs.length d1, .slice B2 x.rs.length d2] 47) (.cells #[.int .i64 s.pos, .int .i64 s.rule, .int .i64 s.node, .int .i64 s.time, .int .i64 s.dist, .int .i64 s.load, .slice S0 s.s0.length g0, .slice S1 s.s1.length g1, .slice S2 s.s2.length g2] 49) (.cells #[.int .i64 0, .int .i64 0, .int .i64 0, .int .i64 0, .int .i64 0, .int .i64 0, .slice none 0 0, .slice none 0 0, .slice none 0 0] 49)
  have HGKC := sA (show w.heap.size ≤ w.heap.size from Nat.le_add_right _ 0)
  have HGKI := sA (show w.heap.size ≤ w.heap.size + 1 from Nat.le_add_right _ 1)
  have HGKS := sA (show w.heap.size ≤ w.heap.size + 1 + 1 from Nat.le_add_right _ 2)
  have HGKR := sA (show w.heap.size ≤ w.heap.size + 1 + 1 + 1 from Nat.le_add_right _ 3)
  have HSZ0 := sA (Nat.le_refl ((((w.alloc (.cells #[.int .i64 c.regs, .int .i64 c.slots, .slice A0 c.b0.length c0, .slice A1 c.b1.length c1, .slice A2 c.b2.length c2] 41)).alloc (.cells #[.slice B0 x.vs.length d0, .slice B1 x.qs.length d1, .slice B2 x.rs.length d2] 47)).alloc (.cells #[.int .i64 s.pos, .int .i64 s.rule, .int .i64 s.node, .int .i64 s.time, .int .i64 s.dist, .int .i64 s.load, .slice S0 s.s0.length g0, .slice S1 s.s1.length g1, .slice S2 s.s2.length g2] 49)).alloc (.cells #[.int .i64 0, .int .i64 0, .int .i64 0, .int .i64 0, .int .i64 0, .int .i64 0, .slice none 0 0, .slice none 0 0, .slice none 0 0] 49)).heap.size)
  go_enter Tryz.func76, Tryz.ntmps76
  go_wp2_with fail
  go_at_call 26
  refine (HVS.out _ _ _ _ (HX.out.1.below HB0.out) (HX.out.2.1.below HB0.out) (HX.out.2.2.below HB0.out)).mono ?_
  rintro e w1 ⟨rfl, hb⟩
  have HB1 := sA (bC HB0.out hb); have HKC1 := sA (bB HKC0.out hb); have HKI1 := sA (bB HKI0.out hb); have HKS1 := sA (bB HKS0.out hb); have HKR1 := sA (bB HKR0.out hb); have HSZ1 := sA (Nat.le_trans HSZ0.out hb.size); clear hb
  obtain ⟨kc1, kc2⟩ := lay0 HKC1.out
  obtain ⟨ki1, ki2⟩ := lay0 HKI1.out
  obtain ⟨ks1, ks2⟩ := lay0 HKS1.out
  obtain ⟨kr1, kr2⟩ := lay0 HKR1.out
  go_wp2_with fail
  clear kc1 kc2 ki1 ki2 ks1 ks2 kr1 kr2
  go_at_call 113
  refine (spec_failed _ s.pos s.rule).mono ?_
  rintro e w2 ⟨rfl, hb⟩
  have HB2 := sA (bC HB1.out hb); have HKC2 := sA (bB HKC1.out hb); have HKI2 := sA (bB HKI1.out hb); have HKS2 := sA (bB HKS1.out hb); have HKR2 := sA (bB HKR1.out hb); have HSZ2 := sA (Nat.le_trans HSZ1.out hb.size); clear hb
  obtain ⟨kc1, kc2⟩ := lay0 HKC2.out
  obtain ⟨ki1, ki2⟩ := lay0 HKI2.out
  obtain ⟨kr1, kr2⟩ := lay0 HKR2.out
  go_wp2_with ((with_reducible refine gate_store (t := 49) (p := 10) rfl ?_); refine wpList_putAll rfl rfl _ _ _ rfl (g := w.heap.size + 1 + 1 + 1) [.int .i64 s.pos, .int .i64 s.rule, .int .i64 0, .int .i64 0, .int .i64 0, .int .i64 0, .slice none 0 0, .slice none 0 0, .slice none 0 0] rfl rfl (by kernel_rfl) (one_all rfl) HKR2.out rfl ?_; intro w3 hX hT hz; clear hz; clear kc1 kc2 ki1 ki2 kr1 kr2; (try simp only [List.setIfInBounds_toArray, List.set_cons_zero, List.set_cons_succ] at hX); have HB3 := sA (hT.below w (fun k hk => by rw [hk]; exact HGKR.out) HB2.out); have HKC3 := sA (tK hT HKR2.out HKC2.out (by decide)); have HKI3 := sA (tK hT HKR2.out HKI2.out (by decide)); have HSZ3 := sA (Nat.le_trans HSZ2.out hT.size); have HKR3 := sA hX; clear hX hT; obtain ⟨kc1, kc2⟩ := lay0 HKC3.out; obtain ⟨ki1, ki2⟩ := lay0 HKI3.out; obtain ⟨kr1, kr2⟩ := lay0 HKR3.out)
  clear kc1 kc2 ki1 ki2 kr1 kr2
  refine bodyPost_ret (results_cell Tryz.results76 rfl HKR3.out Tryz.underlying49 rfl (by kernel_rfl)) rfl ?_
  exact ⟨_, rfl, HL.out ▸ readStN_failed _ s.pos s.rule F, HB3.out⟩
set_option maxRecDepth 100000 in
set_option maxHeartbeats 8000000 in
theorem spec_StepState_go0 (u v1 t : Value) (c : Code) (hc : ReadCode w u c) (x : Inst) (hx : ReadInst w v1 x) (kv : Nat) (s : St) (F : Nat → Prop) (hs : ReadStN w t s F) (hF : ∀ b, F b → b < w.heap.size) (hsm : s.small) (hok : stateOk c x kv s = true) (hR : Run c x kv s) (hp : s.pos < 4096) (k j : Nat) (hj : j < x.qs.length) (hk : k = x.vs.length + (2 * j + 0)) (hy : atI s.s0 j = 0) :
    Calls Tryz.prog 76 #[u, v1, .int .i64 kv, t, .int .i64 k] w fun e w' => ∃ t', e = .returned t' ∧ ReadStN w' t' (stepS c x kv s k) F ∧ Below w.heap.size w w' := by
  have HX := sA (And.intro hc (And.intro hx hs.readC.read))
  have hpos : (s.pos == -1) = false := beq_eq_false_iff_ne.2 (by have := hR.p0; omega)
  have hpos2 : decide (s.pos = -1) = false := decide_eq_false (by have := hR.p0; omega)
  have hru : decide (0 ≤ s.rule) = false := decide_eq_false (by have := hR.rule; omega)
  have hps : (s.pos == 4096) = false := beq_eq_false_iff_ne.2 (by omega)
  have hps2 : decide (s.pos = 4096) = false := decide_eq_false (by omega)
  have qp : IntKind.i64.wrap (s.pos + 1) = s.pos + 1 := IntWalk.i64_in _ (by have := hR.p0; omega)
  have hvs : ∀ (W : World) (u v1 t : Value), ReadCode W u c → ReadInst W v1 x → ReadState W t s → Calls Tryz.prog 26 #[u, v1, .int .i64 kv, t] W fun e w' => e = .returned (.bool true) ∧ Below W.heap.size W w' := fun W u v1 t h1 h2 h3 => hok ▸ spec_ValidState W u v1 t c h1 x h2 kv s h3 hsm
  have hnode : (k : Int) < x.nodes := by unfold Inst.nodes; omega
  have hst : x.stop (k : Int) = true := by unfold Inst.stop Inst.nodes; exact (inB_iff _ _ _).2 ⟨by omega, by omega⟩
  have hkv := hR.hv; have hxv := hR.val; have hcv := hR.cv
  obtain ⟨f0, f1, f2, hnear⟩ := Inst.few_near hxv
  have hsm' : x.small := ⟨by omega, by omega, by omega⟩
  have hrq : x.reqI k = (j : Int) ∧ ((k : Int) - x.vs.length).tmod 2 = 0 := by
    have e : ((k : Int) - x.vs.length) = ((2 * j + 0 : Nat) : Int) := by omega
    unfold Inst.reqI
    rw [e]
    refine ⟨?_, ?_⟩
    · show ((2 * j + 0 : Nat) : Int).tdiv ((2 : Nat) : Int) = _; rw [← Int.ofNat_tdiv]; omega
    · show ((2 * j + 0 : Nat) : Int).tmod ((2 : Nat) : Int) = _; rw [← Int.ofNat_tmod]; omega
  have hpk : x.pick k = true ∧ x.dropB k = false := by
    unfold Inst.pick Inst.dropB
    rw [hst, hrq.2]
    exact ⟨rfl, rfl⟩
  have hstp : ∀ (W : World) (u : Value), ReadInst W u x → Calls Tryz.prog 49 #[u, .int .i64 k] W fun e w' => e = .returned (.bool true) ∧ Below W.heap.size W w' := fun W u h => (show inB (k : Int) x.vs.length (x.nodes - 1) = true from hst) ▸ spec_stop W u x h hsm' k
  have hreq : ∀ (W : World) (u : Value), ReadInst W u x → Calls Tryz.prog 93 #[u, .int .i64 k] W fun e w' => e = .returned (.int .i64 j) ∧ Below W.heap.size W w' := fun W u h => hrq.1 ▸ spec_req W u x h hsm' k (by omega)
  have hpck : ∀ (W : World) (u : Value), ReadInst W u x → Calls Tryz.prog 56 #[u, .int .i64 k] W fun e w' => e = .returned (.bool true) ∧ Below W.heap.size W w' := fun W u h => hpk.1 ▸ spec_pick W u x h hsm' k
  have hdrp : ∀ (W : World) (u : Value), ReadInst W u x → Calls Tryz.prog 57 #[u, .int .i64 k] W fun e w' => e = .returned (.bool false) ∧ Below W.heap.size W w' := fun W u h => hpk.2 ▸ spec_drop W u x h hsm' k
  have HCC := sA (And.intro hvs (And.intro hstp (And.intro hreq (And.intro hpck hdrp)))); clear hvs hstp hreq hpck hdrp
  have HN := sA (And.intro hst (And.intro hrq hnode))
  have hz0 := hR.z0
  have HR := sA hR
  have hjI : (j : Int) < (x.qs.length : Int) := by omega
  have hjS : (j : Int) < (s.s0.length : Int) := by omega
  have hkvI : (kv : Int) < (x.vs.length : Int) := by omega
  have hl0 : s.s0.length ≤ 1000 := by omega
  obtain ⟨A0, c0, A1, c1, A2, c2, rfl, a0, a1, a2⟩ := hc
  obtain ⟨B0, d0, B1, d1, B2, d2, rfl, b0, b1, b2⟩ := hx
  obtain ⟨S0, g0, S1, g1, S2, g2, rfl, s0, s1, s2, hcap, n0, n1, n2⟩ := hs
  have HNI := sA n2; have HFF := sA hF; clear n0 n1 n2 hF
  obtain ⟨ad, e0, t0, t1⟩ := Kd.flat_cells (d := kVeh) rfl b0 zV kv hkv
  cases e0
  have ZS := sA (t1 0 _ rfl); clear t0 t1
  generalize hsk : (x.vs.getD kv zV).skills = sk at ZS
  obtain ⟨aq, e0, t0, t1⟩ := Kd.flat_cells (d := kReq) rfl b1 zQ j hj
  cases e0
  have ZG := sA (t1 0 _ rfl); clear t0 t1
  generalize htg : (x.qs.getD j zQ).tags = tg at ZG
  obtain ⟨az, e0, z0⟩ := int_at s0 (k := j) (by omega)
  cases e0
  have hE : envOf x kv j = ⟨tg, sk, j, x.qs.length⟩ := by unfold envOf; rw [if_neg (by omega), hsk, Int.toNat_natCast, htg]
  have HE := sA hE
  have HS := sA (And.intro s0 (And.intro s1 (And.intro s2 hcap))); have HBK := sA a1
  clear a0 a1 a2 b0 b1 b2 s0 s1 s2 hcap hok hnear hst hrq hnode hpk hR hsk htg hE hz0 hk hsm
  rw [hy] at z0
  have ZT := sA z0; clear z0
  have HY := sA hy; clear hy
  obtain ⟨HB0, HKC0, HKI0, HKS0, HKR0, HZ0⟩ := opens4 w (.cells #[.int .i64 c.regs, .int .i64 c.slots, .slice A0 c.b0.length c0, .slice A1 c.b1.length c1, .slice A2 c.b2.length c2] 41) (.cells #[.slice (some ad) x.vs.length d0, .slice (some aq) x.qs.length d1, .slice B2 x.rs.length d2] 47) (.cells #[.int .i64 s.pos, .int .i64 s.rule, .int .i64 s.node, .int .i64 s.time, .int .i64 s.dist, .int .i64 s.load, .slice (some az) s.s0.length g0, .slice S1 s.s1.length g1, .slice S2 s.s2.length g2] 49) (.cells #[.int .i64 0, .int .i64 0, .int .i64 0, .int .i64 0, .int .i64 0, .int .i64 0, .slice none 0 0, .slice none 0 0, .slice none 0 0] 49)
  have HGKC := sA (show w.heap.size ≤ w.heap.size from Nat.le_add_right _ 0)
  have HGKI := sA (show w.heap.size ≤ w.heap.size + 1 from Nat.le_add_right _ 1)
  have HGKS := sA (show w.heap.size ≤ w.heap.size + 1 + 1 from Nat.le_add_right _ 2)
  have HGKR := sA (show w.heap.size ≤ w.heap.size + 1 + 1 + 1 from Nat.le_add_right _ 3)
  have HSZ0 := sA (Nat.le_refl ((((w.alloc (.cells #[.int .i64 c.regs, .int .i64 c.slots, .slice A0 c.b0.length c0, .slice A1 c.b1.length c1, .slice A2 c.b2.length c2] 41)).alloc (.cells #[.slice (some ad) x.vs.length d0, .slice (some aq) x.qs.length d1, .slice B2 x.rs.length d2] 47)).alloc (.cells #[.int .i64 s.pos, .int .i64 s.rule, .int .i64 s.node, .int .i64 s.time, .int .i64 s.dist, .int .i64 s.load, .slice (some az) s.s0.length g0, .slice S1 s.s1.length g1, .slice S2 s.s2.length g2] 49)).alloc (.cells #[.int .i64 0, .int .i64 0, .int .i64 0, .int .i64 0, .int .i64 0, .int .i64 0, .slice none 0 0, .slice none 0 0, .slice none 0 0] 49)).heap.size)
  go_enter Tryz.func76, Tryz.ntmps76
  go_wp2_with fail
  go_at_call 26
  refine (HCC.out.1 _ _ _ _ (HX.out.1.below HB0.out) (HX.out.2.1.below HB0.out) (HX.out.2.2.below HB0.out)).mono ?_
  rintro e w1 ⟨rfl, hb⟩
  have HB1 := sA (bC HB0.out hb); have HKC1 := sA (bB HKC0.out hb); have HKI1 := sA (bB HKI0.out hb); have HKS1 := sA (bB HKS0.out hb); have HKR1 := sA (bB HKR0.out hb); have HSZ1 := sA (Nat.le_trans HSZ0.out hb.size); clear hb
  obtain ⟨kc1, kc2⟩ := lay0 HKC1.out
  obtain ⟨ki1, ki2⟩ := lay0 HKI1.out
  obtain ⟨ks1, ks2⟩ := lay0 HKS1.out
  obtain ⟨kr1, kr2⟩ := lay0 HKR1.out
  go_wp2_with fail
  clear kc1 kc2 ki1 ki2 ks1 ks2 kr1 kr2
  go_at_call 49
  refine (HCC.out.2.1 _ _ (HX.out.2.1.below HB1.out)).mono ?_
  rintro e w2 ⟨rfl, hb⟩
  have HB2 := sA (bC HB1.out hb); have HKC2 := sA (bB HKC1.out hb); have HKI2 := sA (bB HKI1.out hb); have HKS2 := sA (bB HKS1.out hb); have HKR2 := sA (bB HKR1.out hb); have HSZ2 := sA (Nat.le_trans HSZ1.out hb.size); clear hb
  obtain ⟨kc1, kc2⟩ := lay0 HKC2.out
  obtain ⟨ki1, ki2⟩ := lay0 HKI2.out
  obtain ⟨ks1, ks2⟩ := lay0 HKS2.out
  obtain ⟨kr1, kr2⟩ := lay0 HKR2.out
  go_wp2_with fail
  clear kc1 kc2 ki1 ki2 ks1 ks2 kr1 kr2
  go_at_call 93
  refine (HCC.out.2.2.1 _ _ (HX.out.2.1.below HB2.out)).mono ?_
  rintro e w3 ⟨rfl, hb⟩
  have HB3 := sA (bC HB2.out hb); have HKC3 := sA (bB HKC2.out hb); have HKI3 := sA (bB HKI2.out hb); have HKS3 := sA (bB HKS2.out hb); have HKR3 := sA (bB HKR2.out hb); have HSZ3 := sA (Nat.le_trans HSZ2.out hb.size); clear hb
  obtain ⟨kc1, kc2⟩ := lay0 HKC3.out
  obtain ⟨ki1, ki2⟩ := lay0 HKI3.out
  obtain ⟨ks1, ks2⟩ := lay0 HKS3.out
  obtain ⟨kr1, kr2⟩ := lay0 HKR3.out
  have cZT := pC HB3.out ZT.out
  go_wp2_with fail
  clear kc1 kc2 ki1 ki2 ks1 ks2 kr1 kr2 cZT
  go_at_call 56
  refine (HCC.out.2.2.2.1 _ _ (HX.out.2.1.below HB3.out)).mono ?_
  rintro e w4 ⟨rfl, hb⟩
  have HB4 := sA (bC HB3.out hb); have HKC4 := sA (bB HKC3.out hb); have HKI4 := sA (bB HKI3.out hb); have HKS4 := sA (bB HKS3.out hb); have HKR4 := sA (bB HKR3.out hb); have HSZ4 := sA (Nat.le_trans HSZ3.out hb.size); clear hb
  obtain ⟨kc1, kc2⟩ := lay0 HKC4.out
  obtain ⟨ki1, ki2⟩ := lay0 HKI4.out
  obtain ⟨ks1, ks2⟩ := lay0 HKS4.out
  obtain ⟨kr1, kr2⟩ := lay0 HKR4.out
  have cZT := pC HB4.out ZT.out
  go_wp2_with fail
  clear kc1 kc2 ki1 ki2 ks1 ks2 kr1 kr2 cZT
  go_at_call 57
  refine (HCC.out.2.2.2.2 _ _ (HX.out.2.1.below HB4.out)).mono ?_
  rintro e w5 ⟨rfl, hb⟩
  have HB5 := sA (bC HB4.out hb); have HKC5 := sA (bB HKC4.out hb); have HKI5 := sA (bB HKI4.out hb); have HKS5 := sA (bB HKS4.out hb); have HKR5 := sA (bB HKR4.out hb); have HSZ5 := sA (Nat.le_trans HSZ4.out hb.size); clear hb
  obtain ⟨kc1, kc2⟩ := lay0 HKC5.out
  obtain ⟨ki1, ki2⟩ := lay0 HKI5.out
  obtain ⟨ks1, ks2⟩ := lay0 HKS5.out
  obtain ⟨kr1, kr2⟩ := lay0 HKR5.out
  go_wp2_with fail
  clear kc1 kc2 ki1 ki2 ks1 ks2 kr1 kr2
  go_at_call 28
  refine (spec_next _ _ _ x (HX.out.2.1.below HB5.out) kv s (HX.out.2.2.below HB5.out) k hxv hkv HR.out.n0 HR.out.n1 (by omega) HN.out.2.2 (by have := HR.out.p0; omega) (by have := HR.out.p1; omega)).mono ?_
  rintro e w6 ⟨v, rfl, hr, hb⟩
  have HB6 := sA (bC HB5.out hb); have HKC6 := sA (bB HKC5.out hb); have HKI6 := sA (bB HKI5.out hb); have HKS6 := sA (bB HKS5.out hb); have HKR6 := sA (bB HKR5.out hb); have HSZ6 := sA (Nat.le_trans HSZ5.out hb.size); clear hb
  obtain ⟨gn, cN, rfl, _⟩ := Kd.R_form hr (by rw [nextA_len]; omega)
  have hr' := Kd.R_lower hr (show w.heap.size ≤ w5.heap.size from by have h1 := HSZ5.out; have h2 := HZ0.out; omega)
  have HRN6 := sA hr'; clear hr hr'
  rw [nextA_len]
  obtain ⟨kc1, kc2⟩ := lay0 HKC6.out
  obtain ⟨ki1, ki2⟩ := lay0 HKI6.out
  obtain ⟨ks1, ks2⟩ := lay0 HKS6.out
  obtain ⟨kr1, kr2⟩ := lay0 HKR6.out
  go_wp2_with fail
  clear kc1 kc2 ki1 ki2 ks1 ks2 kr1 kr2
  refine Grow.wp_region_deps 24 ⟨[(3, 81), (22, 100), (23, 14)], fun i v lo hi W => GAt [(3, RowP w6.heap.size (stepM x kv s k).regs), (22, AggP (fun vs => .agg #[vs.getD 0 undef, .slice S2 s.s2.length g2, .int .i64 tg, .int .i64 sk, .int .i64 j, .int .i64 x.qs.length, .int .i64 (-1)]) w6.heap.size [(stepM x kv s k).regs]), (23, BoxG #[.slice none 0 0, .slice none 0 0, .int .i64 0, .int .i64 0, .int .i64 0, .int .i64 0, .int .i64 0] 73)] i v lo W, fun i v lo hi W W' hb h => GAt.stays (l := [(3, RowP w6.heap.size (stepM x kv s k).regs), (22, AggP (fun vs => .agg #[vs.getD 0 undef, .slice S2 s.s2.length g2, .int .i64 tg, .int .i64 sk, .int .i64 j, .int .i64 x.qs.length, .int .i64 (-1)]) w6.heap.size [(stepM x kv s k).regs]), (23, BoxG #[.slice none 0 0, .slice none 0 0, .int .i64 0, .int .i64 0, .int .i64 0, .int .i64 0, .int .i64 0] 73)]) ⟨RowP.stays _ _, AggP.stays _ _ _, BoxG.stays _ _, trivial⟩ i v lo hi W W' hb h⟩ (by kernel_rfl) (show List.Pairwise (fun p q : Nat × Tmp => p.1 ≠ q.1 ∧ p.2 ≠ q.2) [(3, 81), (22, 100), (23, 14)] from by decide) (by kernel_rfl) (by rfl) ?_
  dsimp only [List.take, List.drop]
  repeat (refine Grow.lexD_do _ (by rfl) (by rfl) (by intro W hj; obtain ⟨kc1, kc2⟩ := lay hj.out HKC6.out; obtain ⟨ki1, ki2⟩ := lay hj.out HKI6.out; obtain ⟨ks1, ks2⟩ := lay hj.out HKS6.out; obtain ⟨kr1, kr2⟩ := lay hj.out HKR6.out; have cZS := pC (bC HB6.out hj.out) ZS.out; have cZG := pC (bC HB6.out hj.out) ZG.out; go_simp; first | exact Grow.UponB.val) ?_; refine Grow.lexD_norm (fun K hK => ?_); go_simp; refine hK _ ?_; clear hK K)
  refine Grow.lexD_make (by rfl) (by rfl) (by intro u lo hi W hj hd; have hlow : w6.heap.size ≤ W.heap.size := hj.out.size; obtain ⟨kc1, kc2⟩ := lay hj.out HKC6.out; obtain ⟨ki1, ki2⟩ := lay hj.out HKI6.out; obtain ⟨ks1, ks2⟩ := lay hj.out HKS6.out; obtain ⟨kr1, kr2⟩ := lay hj.out HKR6.out; have cZS := pC (bC HB6.out hj.out) ZS.out; have cZG := pC (bC HB6.out hj.out) ZG.out; dsimp only [Grow.fillM, List.foldl]; go_simp; have hCN := (Kd.R_reads' (Kd.R_below HRN6.out hj.out)).2.2; have cc := spec_over W S1 (some ⟨gn, 0, none⟩) g1 cN s.s1 (nextA x kv s k) (Kd.C_below HS.out.2.1 (bC HB6.out hj.out)) hCN HS.out.2.2.2 (by have := HR.out.z1; have := (Code.facts hcv).1; omega) (by have := HR.out.z1; have := (Code.facts hcv).2.1; omega) (by rw [nextA_len]; omega); rw [nextA_len] at cc; refine Grow.UponB.made ?_; (with_reducible refine Calls.mono cc ?_); rintro e w' ⟨v, rfl, hr, hb⟩; exact ⟨_, rfl, GAt.mk (P := RowP w6.heap.size (stepM x kv s k).regs) (Kd.R_lower hr hlow) (by intro p hp he; simp only [List.mem_cons, List.not_mem_nil, or_false] at hp; rcases hp with rfl | rfl | rfl <;> first | rfl | exact absurd he (by simp)), hb⟩) ?_
  refine Grow.lexD_norm (fun K hK => ?_); go_simp; refine hK _ ?_; clear hK K
  repeat (refine Grow.lexD_do _ (by rfl) (by rfl) (by intro W hj; obtain ⟨kc1, kc2⟩ := lay hj.out HKC6.out; obtain ⟨ki1, ki2⟩ := lay hj.out HKI6.out; obtain ⟨ks1, ks2⟩ := lay hj.out HKS6.out; obtain ⟨kr1, kr2⟩ := lay hj.out HKR6.out; have cZS := pC (bC HB6.out hj.out) ZS.out; have cZG := pC (bC HB6.out hj.out) ZG.out; go_simp; first | exact Grow.UponB.val) ?_; refine Grow.lexD_norm (fun K hK => ?_); go_simp; refine hK _ ?_; clear hK K)
  refine Grow.lexD_make (by rfl) (by rfl) (by intro u lo hi W hj hd; have hlow : w6.heap.size ≤ W.heap.size := hj.out.size; obtain ⟨kc1, kc2⟩ := lay hj.out HKC6.out; obtain ⟨ki1, ki2⟩ := lay hj.out HKI6.out; obtain ⟨ks1, ks2⟩ := lay hj.out HKS6.out; obtain ⟨kr1, kr2⟩ := lay hj.out HKR6.out; have cZS := pC (bC HB6.out hj.out) ZS.out; have cZG := pC (bC HB6.out hj.out) ZG.out; have h3 : kInt.R 2 W w6.heap.size (fun _ => True) (u 3) (stepM x kv s k).regs := ((hd 3 rfl (by kernel_rfl)).at (P := RowP w6.heap.size (stepM x kv s k).regs) (by simp)); obtain ⟨A7, c7, hu7⟩ := Kd.R_slice h3; rw [hu7] at h3; dsimp only [Grow.fillM, List.foldl]; go_simp; refine Grow.UponB.valR ?_; exact GAt.mk (P := AggP (fun vs => .agg #[vs.getD 0 undef, .slice S2 s.s2.length g2, .int .i64 tg, .int .i64 sk, .int .i64 j, .int .i64 x.qs.length, .int .i64 (-1)]) w6.heap.size [(stepM x kv s k).regs]) (⟨[.slice A7 _ c7], rfl, rfl, fun k hk => by rcases (show k = 0 by simp at hk; omega) with rfl; exact h3⟩) (by intro p hp he; simp only [List.mem_cons, List.not_mem_nil, or_false] at hp; rcases hp with rfl | rfl | rfl <;> first | rfl | exact absurd he (by simp))) ?_
  refine Grow.lexD_norm (fun K hK => ?_); go_simp; refine hK _ ?_; clear hK K
  refine Grow.lexD_make (by rfl) (by rfl) (by intro u lo hi W hj hd; have hlow : w6.heap.size ≤ W.heap.size := hj.out.size; obtain ⟨kc1, kc2⟩ := lay hj.out HKC6.out; obtain ⟨ki1, ki2⟩ := lay hj.out HKI6.out; obtain ⟨ks1, ks2⟩ := lay hj.out HKS6.out; obtain ⟨kr1, kr2⟩ := lay hj.out HKR6.out; have cZS := pC (bC HB6.out hj.out) ZS.out; have cZG := pC (bC HB6.out hj.out) ZG.out; dsimp only [Grow.fillM, List.foldl]; go_simp; refine Grow.UponB.boxR ?_; exact GAt.mk (P := BoxG #[.slice none 0 0, .slice none 0 0, .int .i64 0, .int .i64 0, .int .i64 0, .int .i64 0, .int .i64 0] 73) (⟨rfl, al_new W _⟩) (by intro p hp he; simp only [List.mem_cons, List.not_mem_nil, or_false] at hp; rcases hp with rfl | rfl | rfl <;> first | rfl | exact absurd he (by simp))) ?_
  refine Grow.lexD_norm (fun K hK => ?_); go_simp; refine hK _ ?_; clear hK K
  refine Grow.lexD_nil (fun u lo hi w7 hj hG hord => ?_)
  obtain ⟨vs, hu20, hvl, hvs⟩ := (show AggP (fun vs => .agg #[vs.getD 0 undef, .slice S2 s.s2.length g2, .int .i64 tg, .int .i64 sk, .int .i64 j, .int .i64 x.qs.length, .int .i64 (-1)]) w6.heap.size [(stepM x kv s k).regs] (u 22) (lo 22) w7 from ((hG 22 rfl).1).at (by simp))
  obtain ⟨hu21, hzm⟩ := (show BoxG #[.slice none 0 0, .slice none 0 0, .int .i64 0, .int .i64 0, .int .i64 0, .int .i64 0, .int .i64 0] 73 (u 23) (lo 23) w7 from ((hG 23 rfl).1).at (by simp))
  have hlo := (hG 23 rfl).2.1
  have hR7 : kInt.R 2 w7 w6.heap.size (fun _ => True) (vs.getD 0 undef) (stepM x kv s k).regs := hvs 0 (by simp)
  clear hG hord hvs
  dsimp only [List.foldl]
  dsimp only at hu20
  rw [hu20, hu21]
  generalize vs.getD 0 undef = v7 at *
  generalize lo 23 = mb at *
  clear hu20 hu21 hvl vs lo hi
  obtain ⟨AR, cR, rfl, hcR, hCR⟩ := Kd.R_reads hR7
  have hmb : w.heap.size + 4 ≤ mb := by have h1 := HSZ6.out; have h2 := HZ0.out; omega
  have HMB := sA hmb; have HGM := sA (show w.heap.size ≤ mb by omega)
  have HNr := sA (show NotIn AR (stepM x kv s k).regs.length (fun k => k = mb ∨ k = w.heap.size + 1 + 1 + 1 ∨ F k) from fun a he hp hh => by have := row_ge hR7 a he hp; have h1 := HSZ6.out; have h2 := HZ0.out; rcases hh with hh | hh | hh; exact row_ne hR7 hzm (by decide) a he hp hh; omega; have := HFF.out _ hh; omega)
  have HNs := sA (show NotIn S2 s.s2.length (fun k => k = mb ∨ k = w.heap.size + 1 + 1 + 1 ∨ F k) from fun a he hp hh => by have := int_lt HS.out.2.2.1 he hp; rcases hh with hh | hh | hh; omega; omega; exact HNI.out a he hp hh)
  have HCr7 := sA hCR; have HCs7 := sA (Kd.C_below HS.out.2.2.1 (bC HB6.out hj.out)); have HKM7 := sA hzm; have HCP := sA hcR
  clear hmb hR7 hCR hzm hcR hlo
  refine wpl_norm (fun K hK => ?_); go_simp; refine hK _ ?_; clear hK K
  have hb := hj.out; clear hj
  have HB7 := sA (bC HB6.out hb); have HKC7 := sA (bB HKC6.out hb); have HKI7 := sA (bB HKI6.out hb); have HKS7 := sA (bB HKS6.out hb); have HKR7 := sA (bB HKR6.out hb); have HRN7 := sA (Kd.R_below HRN6.out hb); have HSZ7 := sA (Nat.le_trans HSZ6.out hb.size); clear hb
  obtain ⟨kc1, kc2⟩ := lay0 HKC7.out
  obtain ⟨ki1, ki2⟩ := lay0 HKI7.out
  obtain ⟨ks1, ks2⟩ := lay0 HKS7.out
  obtain ⟨kr1, kr2⟩ := lay0 HKR7.out
  obtain ⟨km1, km2⟩ := lay0 HKM7.out
  go_wp2_with ((with_reducible refine gate_store (t := 73) (p := 14) rfl ?_); refine wpList_putAll rfl rfl _ _ _ rfl (g := mb) [.slice AR (stepM x kv s k).regs.length cR, .slice S2 s.s2.length g2, .int .i64 tg, .int .i64 sk, .int .i64 j, .int .i64 x.qs.length, .int .i64 (-1)] rfl rfl (by kernel_rfl) (one_all rfl) HKM7.out rfl ?_; intro w8 hX hT hz; clear hz; clear kc1 kc2 ki1 ki2 ks1 ks2 kr1 kr2 km1 km2; have HCr8 := sA (c_tch HCr7.out HNr.out hT (by first | exact Or.inl rfl | exact Or.inr (Or.inl rfl) | exact rfl)); have HCs8 := sA (c_tch HCs7.out HNs.out hT (by first | exact Or.inl rfl | exact Or.inr (Or.inl rfl) | exact rfl)); (try simp only [List.setIfInBounds_toArray, List.set_cons_zero, List.set_cons_succ] at hX); have HB8 := sA (hT.below w (fun k hk => by rw [hk]; exact HGM.out) HB7.out); have HKC8 := sA (tK hT HKM7.out HKC7.out (by decide)); have HKI8 := sA (tK hT HKM7.out HKI7.out (by decide)); have HKS8 := sA (tK hT HKM7.out HKS7.out (by decide)); have HKR8 := sA (tK hT HKM7.out HKR7.out (by decide)); have HRN8 := sA (row_tch HRN7.out hT HKM7.out (by decide)); have HSZ8 := sA (Nat.le_trans HSZ7.out hT.size); have HKM8 := sA hX; clear hX hT; obtain ⟨kc1, kc2⟩ := lay0 HKC8.out; obtain ⟨ki1, ki2⟩ := lay0 HKI8.out; obtain ⟨ks1, ks2⟩ := lay0 HKS8.out; obtain ⟨kr1, kr2⟩ := lay0 HKR8.out; obtain ⟨km1, km2⟩ := lay0 HKM8.out)
  clear kc1 kc2 ki1 ki2 ks1 ks2 kr1 kr2 km1 km2
  have hcall := spec_exec A1 c1 c.b1 (envOf x kv j) (Code.facts hcv).2.2.2.2.2.1 (Code.facts hcv).2.1 (Code.facts hcv).2.2.1 (Code.facts hcv).2.2.2.1 c.b1.length 0 (stepM x kv s k) (by omega) (by have h := HR.out.step HN.out.1; rw [HN.out.2.1.1] at h; exact h) w8 AR cR S2 g2 (fun k => k = mb ∨ k = w.heap.size + 1 + 1 + 1 ∨ F k) (Kd.C_below HBK.out HB8.out) HCr8.out HCs8.out HNr.out HNs.out (fun k hk => by rcases hk with rfl | rfl | hk; exact blk_lt HKM8.out; exact blk_lt HKR8.out; exact Nat.lt_of_lt_of_le (HFF.out k hk) HB8.out.size) HCP.out
  have hST := show stepS c x kv s k = if 0 ≤ (runB (envOf x kv j) c.b1 (stepM x kv s k)).rule then failS (s.pos + 1) (runB (envOf x kv j) c.b1 (stepM x kv s k)).rule else goS x kv s k (runB (envOf x kv j) c.b1 (stepM x kv s k)) by
    unfold stepS
    rw [if_neg (by have := HR.out.rule; omega), HN.out.2.1.1, HN.out.2.1.2, HY.out, if_neg (by decide)]
  unfold runB at hST
  rw [HE.out] at hcall hST
  have hml := (exec_mok (E := envOf x kv j) (Code.facts hcv).2.2.2.2.2.1 c.b1.length 0 (stepM x kv s k) (by have h := HR.out.step HN.out.1; rw [HN.out.2.1.1] at h; exact h)).sl
  rw [HE.out] at hml
  generalize exec ⟨tg, sk, j, x.qs.length⟩ c.b1 c.b1.length 0 (stepM x kv s k) = mF at hcall hST hml
  have HML := sA (show mF.slots.length ≤ 2000000 by have h1 := slots_small hcv hxv; have h2 : (mF.slots.length : Int) = c.slots * (x.qs.length : Int) := hml; omega)
  clear hml
  have HST := sA hST
  simp only [memV] at hcall
  clear hST
  go_at_call 29
  refine hcall.mono ?_
  rintro e w9 ⟨⟨A4, c4, A5, c5, rfl, hC4, hC5, hN4, hN5, hcap⟩, hb⟩
  clear hcall
  have HB9 := sA (bC HB8.out hb); have HKC9 := sA (bB HKC8.out hb); have HKI9 := sA (bB HKI8.out hb); have HKS9 := sA (bB HKS8.out hb); have HKR9 := sA (bB HKR8.out hb); have HKM9 := sA (bB HKM8.out hb); have HRN9 := sA (Kd.R_below HRN8.out hb); have HSZ9 := sA (Nat.le_trans HSZ8.out hb.size); clear hb
  have HCr9 := sA hC4; have HCs9 := sA hC5; clear HNr HNs HCP; have HNr := sA hN4; have HNs := sA hN5; have HCP := sA hcap; clear hC4 hC5 hN4 hN5 hcap
  by_cases hr : 0 ≤ mF.rule
  · have p6 : decide (0 ≤ mF.rule) = true := decide_eq_true hr
    have HL := sA (show stepS c x kv s k = failS (s.pos + 1) mF.rule by rw [HST.out, if_pos hr]); clear hr
    obtain ⟨kc1, kc2⟩ := lay0 HKC9.out
    obtain ⟨ki1, ki2⟩ := lay0 HKI9.out
    obtain ⟨ks1, ks2⟩ := lay0 HKS9.out
    obtain ⟨kr1, kr2⟩ := lay0 HKR9.out
    obtain ⟨km1, km2⟩ := lay0 HKM9.out
    go_wp2_with ((with_reducible refine gate_store (t := 73) (p := 14) rfl ?_); refine wpList_putAll rfl rfl _ _ _ rfl (g := mb) [.slice A4 mF.regs.length c4, .slice A5 mF.slots.length c5, .int .i64 tg, .int .i64 sk, .int .i64 j, .int .i64 x.qs.length, .int .i64 mF.rule] rfl rfl (by kernel_rfl) (one_all rfl) HKM9.out rfl ?_; intro w10 hX hT hz; clear hz; clear kc1 kc2 ki1 ki2 ks1 ks2 kr1 kr2 km1 km2; have HCr10 := sA (c_tch HCr9.out HNr.out hT (by first | exact Or.inl rfl | exact Or.inr (Or.inl rfl) | exact rfl)); have HCs10 := sA (c_tch HCs9.out HNs.out hT (by first | exact Or.inl rfl | exact Or.inr (Or.inl rfl) | exact rfl)); (try simp only [List.setIfInBounds_toArray, List.set_cons_zero, List.set_cons_succ] at hX); have HB10 := sA (hT.below w (fun k hk => by rw [hk]; exact HGM.out) HB9.out); have HKC10 := sA (tK hT HKM9.out HKC9.out (by decide)); have HKI10 := sA (tK hT HKM9.out HKI9.out (by decide)); have HKS10 := sA (tK hT HKM9.out HKS9.out (by decide)); have HKR10 := sA (tK hT HKM9.out HKR9.out (by decide)); have HRN10 := sA (row_tch HRN9.out hT HKM9.out (by decide)); have HSZ10 := sA (Nat.le_trans HSZ9.out hT.size); have HKM10 := sA hX; clear hX hT; obtain ⟨kc1, kc2⟩ := lay0 HKC10.out; obtain ⟨ki1, ki2⟩ := lay0 HKI10.out; obtain ⟨ks1, ks2⟩ := lay0 HKS10.out; obtain ⟨kr1, kr2⟩ := lay0 HKR10.out; obtain ⟨km1, km2⟩ := lay0 HKM10.out)
    clear kc1 kc2 ki1 ki2 ks1 ks2 kr1 kr2 km1 km2
    go_at_call 113
    refine (spec_failed _ (s.pos + 1) mF.rule).mono ?_
    rintro e w11 ⟨rfl, hb⟩
    have HB11 := sA (bC HB10.out hb); have HKC11 := sA (bB HKC10.out hb); have HKI11 := sA (bB HKI10.out hb); have HKS11 := sA (bB HKS10.out hb); have HKR11 := sA (bB HKR10.out hb); have HKM11 := sA (bB HKM10.out hb); have HRN11 := sA (Kd.R_below HRN10.out hb); have HSZ11 := sA (Nat.le_trans HSZ10.out hb.size); have HCr11 := sA (Kd.C_below HCr10.out hb); have HCs11 := sA (Kd.C_below HCs10.out hb); clear hb
    obtain ⟨kc1, kc2⟩ := lay0 HKC11.out
    obtain ⟨ki1, ki2⟩ := lay0 HKI11.out
    obtain ⟨kr1, kr2⟩ := lay0 HKR11.out
    obtain ⟨km1, km2⟩ := lay0 HKM11.out
    go_wp2_with ((with_reducible refine gate_store (t := 49) (p := 10) rfl ?_); refine wpList_putAll rfl rfl _ _ _ rfl (g := w.heap.size + 1 + 1 + 1) [.int .i64 (s.pos + 1), .int .i64 mF.rule, .int .i64 0, .int .i64 0, .int .i64 0, .int .i64 0, .slice none 0 0, .slice none 0 0, .slice none 0 0] rfl rfl (by kernel_rfl) (one_all rfl) HKR11.out rfl ?_; intro w12 hX hT hz; clear hz; clear kc1 kc2 ki1 ki2 kr1 kr2 km1 km2; have HCr12 := sA (c_tch HCr11.out HNr.out hT (by first | exact Or.inl rfl | exact Or.inr (Or.inl rfl) | exact rfl)); have HCs12 := sA (c_tch HCs11.out HNs.out hT (by first | exact Or.inl rfl | exact Or.inr (Or.inl rfl) | exact rfl)); (try simp only [List.setIfInBounds_toArray, List.set_cons_zero, List.set_cons_succ] at hX); have HB12 := sA (hT.below w (fun k hk => by rw [hk]; exact HGKR.out) HB11.out); have HKC12 := sA (tK hT HKR11.out HKC11.out (by decide)); have HKI12 := sA (tK hT HKR11.out HKI11.out (by decide)); have HKM12 := sA (tK hT HKR11.out HKM11.out (by decide)); have HRN12 := sA (row_tch HRN11.out hT HKR11.out (by decide)); have HSZ12 := sA (Nat.le_trans HSZ11.out hT.size); have HKR12 := sA hX; clear hX hT; obtain ⟨kc1, kc2⟩ := lay0 HKC12.out; obtain ⟨ki1, ki2⟩ := lay0 HKI12.out; obtain ⟨kr1, kr2⟩ := lay0 HKR12.out; obtain ⟨km1, km2⟩ := lay0 HKM12.out)
    clear kc1 kc2 ki1 ki2 kr1 kr2 km1 km2
    refine bodyPost_ret (results_cell Tryz.results76 rfl HKR12.out Tryz.underlying49 rfl (by kernel_rfl)) rfl ?_
    exact ⟨_, rfl, HL.out ▸ readStN_failed _ (s.pos + 1) mF.rule F, HB12.out⟩
  · have p6 : decide (0 ≤ mF.rule) = false := decide_eq_false hr
    have HL := sA (show stepS c x kv s k = goS x kv s k mF by rw [HST.out, if_neg hr]); clear hr
    obtain ⟨kc1, kc2⟩ := lay0 HKC9.out
    obtain ⟨ki1, ki2⟩ := lay0 HKI9.out
    obtain ⟨ks1, ks2⟩ := lay0 HKS9.out
    obtain ⟨kr1, kr2⟩ := lay0 HKR9.out
    obtain ⟨km1, km2⟩ := lay0 HKM9.out
    go_wp2_with ((with_reducible refine gate_store (t := 73) (p := 14) rfl ?_); refine wpList_putAll rfl rfl _ _ _ rfl (g := mb) [.slice A4 mF.regs.length c4, .slice A5 mF.slots.length c5, .int .i64 tg, .int .i64 sk, .int .i64 j, .int .i64 x.qs.length, .int .i64 mF.rule] rfl rfl (by kernel_rfl) (one_all rfl) HKM9.out rfl ?_; intro w10 hX hT hz; clear hz; clear kc1 kc2 ki1 ki2 ks1 ks2 kr1 kr2 km1 km2; have HCr10 := sA (c_tch HCr9.out HNr.out hT (by first | exact Or.inl rfl | exact Or.inr (Or.inl rfl) | exact rfl)); have HCs10 := sA (c_tch HCs9.out HNs.out hT (by first | exact Or.inl rfl | exact Or.inr (Or.inl rfl) | exact rfl)); (try simp only [List.setIfInBounds_toArray, List.set_cons_zero, List.set_cons_succ] at hX); have HB10 := sA (hT.below w (fun k hk => by rw [hk]; exact HGM.out) HB9.out); have HKC10 := sA (tK hT HKM9.out HKC9.out (by decide)); have HKI10 := sA (tK hT HKM9.out HKI9.out (by decide)); have HKS10 := sA (tK hT HKM9.out HKS9.out (by decide)); have HKR10 := sA (tK hT HKM9.out HKR9.out (by decide)); have HRN10 := sA (row_tch HRN9.out hT HKM9.out (by decide)); have HSZ10 := sA (Nat.le_trans HSZ9.out hT.size); have HKM10 := sA hX; clear hX hT; obtain ⟨kc1, kc2⟩ := lay0 HKC10.out; obtain ⟨ki1, ki2⟩ := lay0 HKI10.out; obtain ⟨ks1, ks2⟩ := lay0 HKS10.out; obtain ⟨kr1, kr2⟩ := lay0 HKR10.out; obtain ⟨km1, km2⟩ := lay0 HKM10.out)
    clear kc1 kc2 ki1 ki2 ks1 ks2 kr1 kr2 km1 km2
    have hCN := (Kd.R_reads' HRN10.out).2.2
    obtain ⟨an, ea, za0⟩ := int_at hCN (k := 0) (by rw [nextA_len]; omega)
    obtain ⟨an', ea', za3⟩ := int_at hCN (k := 3) (by rw [nextA_len]; omega)
    obtain ⟨an'', ea'', za4⟩ := int_at hCN (k := 4) (by rw [nextA_len]; omega)
    cases ea; cases ea'; cases ea''; clear hCN
    replace za0 : w10.cell? ⟨gn, 0, none⟩ = some (.int .i64 (maxI (x.placeAt k).o (nextArr x s k))) := za0
    replace za3 : w10.cell? ⟨gn, 3, none⟩ = some (.int .i64 (satAdd s.dist (x.leg s.node k))) := za3
    replace za4 : w10.cell? ⟨gn, 4, none⟩ = some (.int .i64 (satAdd s.load ((bitI (x.pick k) - bitI (x.dropB k)) * x.sizeAt k))) := za4
    generalize hnt : maxI (x.placeAt k).o (nextArr x s k) = nt at *
    generalize hnd : satAdd s.dist (x.leg s.node k) = nd at *
    generalize hnl : satAdd s.load ((bitI (x.pick k) - bitI (x.dropB k)) * x.sizeAt k) = nl at *
    have HNX := sA (And.intro hnt (And.intro hnd hnl)); clear hnt hnd hnl
    have ZN0 := sA za0; have ZN3 := sA za3; have ZN4 := sA za4; clear za0 za3 za4
    have qw1 : IntKind.i64.wrap 1 = 1 := rfl; have qw2 : IntKind.i64.wrap 2 = 2 := rfl
    refine Grow.wp_region_deps 26 ⟨[(18, 132), (21, 135), (24, 138), (25, 139)], fun i v lo hi W => GAt [(18, RowP w10.heap.size (putI s.s0 j (0 + 1))), (21, LitP w10.heap.size), (24, RowP w10.heap.size mF.slots), (25, AggP (fun vs => .agg #[.int .i64 (s.pos + 1), .int .i64 (-1), .int .i64 k, .int .i64 nt, .int .i64 nd, .int .i64 nl, vs.getD 0 undef, .slice A4 mF.regs.length c4, vs.getD 1 undef]) w10.heap.size [putI s.s0 j (0 + 1), mF.slots])] i v lo W, fun i v lo hi W W' hb h => GAt.stays (l := [(18, RowP w10.heap.size (putI s.s0 j (0 + 1))), (21, LitP w10.heap.size), (24, RowP w10.heap.size mF.slots), (25, AggP (fun vs => .agg #[.int .i64 (s.pos + 1), .int .i64 (-1), .int .i64 k, .int .i64 nt, .int .i64 nd, .int .i64 nl, vs.getD 0 undef, .slice A4 mF.regs.length c4, vs.getD 1 undef]) w10.heap.size [putI s.s0 j (0 + 1), mF.slots])]) ⟨RowP.stays _ _, LitP.stays _, RowP.stays _ _, AggP.stays _ _ _, trivial⟩ i v lo hi W W' hb h⟩ (by kernel_rfl) (show List.Pairwise (fun p q : Nat × Tmp => p.1 ≠ q.1 ∧ p.2 ≠ q.2) [(18, 132), (21, 135), (24, 138), (25, 139)] from by decide) (by kernel_rfl) (by rfl) ?_
    dsimp only [List.take, List.drop]
    repeat (refine Grow.lexD_do _ (by rfl) (by rfl) (by intro W hj; obtain ⟨kc1, kc2⟩ := lay hj.out HKC10.out; obtain ⟨ki1, ki2⟩ := lay hj.out HKI10.out; obtain ⟨ks1, ks2⟩ := lay hj.out HKS10.out; obtain ⟨kr1, kr2⟩ := lay hj.out HKR10.out; obtain ⟨km1, km2⟩ := lay hj.out HKM10.out; have cZN0 := pC hj.out ZN0.out; have cZN3 := pC hj.out ZN3.out; have cZN4 := pC hj.out ZN4.out; go_simp; first | exact Grow.UponB.val) ?_; refine Grow.lexD_norm (fun K hK => ?_); go_simp; refine hK _ ?_; clear hK K)
    refine Grow.lexD_make (by rfl) (by rfl) (by intro u lo hi W hj hd; have hlow : w10.heap.size ≤ W.heap.size := hj.out.size; obtain ⟨kc1, kc2⟩ := lay hj.out HKC10.out; obtain ⟨ki1, ki2⟩ := lay hj.out HKI10.out; obtain ⟨ks1, ks2⟩ := lay hj.out HKS10.out; obtain ⟨kr1, kr2⟩ := lay hj.out HKR10.out; obtain ⟨km1, km2⟩ := lay hj.out HKM10.out; have cZN0 := pC hj.out ZN0.out; have cZN3 := pC hj.out ZN3.out; have cZN4 := pC hj.out ZN4.out; dsimp only [Grow.fillM, List.foldl]; go_simp; have cc := spec_set W (some az) g0 s.s0 (Kd.C_below HS.out.1 (bC HB10.out hj.out)) (by omega) j 1 (by omega) hjS; refine Grow.UponB.made ?_; (with_reducible refine Calls.mono cc ?_); rintro e w' ⟨v, rfl, hr, hb⟩; exact ⟨_, rfl, GAt.mk (P := RowP w10.heap.size (putI s.s0 j (0 + 1))) (Kd.R_lower hr hlow) (by intro p hp he; simp only [List.mem_cons, List.not_mem_nil, or_false] at hp; rcases hp with rfl | rfl | rfl | rfl <;> first | rfl | exact absurd he (by simp)), hb⟩) ?_
    refine Grow.lexD_norm (fun K hK => ?_); go_simp; refine hK _ ?_; clear hK K
    repeat (refine Grow.lexD_do _ (by rfl) (by rfl) (by intro W hj; obtain ⟨kc1, kc2⟩ := lay hj.out HKC10.out; obtain ⟨ki1, ki2⟩ := lay hj.out HKI10.out; obtain ⟨ks1, ks2⟩ := lay hj.out HKS10.out; obtain ⟨kr1, kr2⟩ := lay hj.out HKR10.out; obtain ⟨km1, km2⟩ := lay hj.out HKM10.out; have cZN0 := pC hj.out ZN0.out; have cZN3 := pC hj.out ZN3.out; have cZN4 := pC hj.out ZN4.out; go_simp; first | exact Grow.UponB.val) ?_; refine Grow.lexD_norm (fun K hK => ?_); go_simp; refine hK _ ?_; clear hK K)
    refine Grow.lexD_make (by rfl) (by rfl) (by intro u lo hi W hj hd; have hlow : w10.heap.size ≤ W.heap.size := hj.out.size; obtain ⟨kc1, kc2⟩ := lay hj.out HKC10.out; obtain ⟨ki1, ki2⟩ := lay hj.out HKI10.out; obtain ⟨ks1, ks2⟩ := lay hj.out HKS10.out; obtain ⟨kr1, kr2⟩ := lay hj.out HKR10.out; obtain ⟨km1, km2⟩ := lay hj.out HKM10.out; have cZN0 := pC hj.out ZN0.out; have cZN3 := pC hj.out ZN3.out; have cZN4 := pC hj.out ZN4.out; dsimp only [Grow.fillM, List.foldl]; go_simp; refine Grow.UponB.boxR ?_; exact GAt.mk (P := LitP w10.heap.size) (⟨_, rfl, lit_empty W w10.heap.size hlow⟩) (by intro p hp he; simp only [List.mem_cons, List.not_mem_nil, or_false] at hp; rcases hp with rfl | rfl | rfl | rfl <;> first | rfl | exact absurd he (by simp))) ?_
    refine Grow.lexD_norm (fun K hK => ?_); go_simp; refine hK _ ?_; clear hK K
    repeat (refine Grow.lexD_do _ (by rfl) (by rfl) (by intro W hj; obtain ⟨kc1, kc2⟩ := lay hj.out HKC10.out; obtain ⟨ki1, ki2⟩ := lay hj.out HKI10.out; obtain ⟨ks1, ks2⟩ := lay hj.out HKS10.out; obtain ⟨kr1, kr2⟩ := lay hj.out HKR10.out; obtain ⟨km1, km2⟩ := lay hj.out HKM10.out; have cZN0 := pC hj.out ZN0.out; have cZN3 := pC hj.out ZN3.out; have cZN4 := pC hj.out ZN4.out; go_simp; first | exact Grow.UponB.val) ?_; refine Grow.lexD_norm (fun K hK => ?_); go_simp; refine hK _ ?_; clear hK K)
    refine Grow.lexD_make (by rfl) (by rfl) (by intro u lo hi W hj hd; have hlow : w10.heap.size ≤ W.heap.size := hj.out.size; obtain ⟨kc1, kc2⟩ := lay hj.out HKC10.out; obtain ⟨ki1, ki2⟩ := lay hj.out HKI10.out; obtain ⟨ks1, ks2⟩ := lay hj.out HKS10.out; obtain ⟨kr1, kr2⟩ := lay hj.out HKR10.out; obtain ⟨km1, km2⟩ := lay hj.out HKM10.out; have cZN0 := pC hj.out ZN0.out; have cZN3 := pC hj.out ZN3.out; have cZN4 := pC hj.out ZN4.out; obtain ⟨b21, hu21, h21⟩ := ((hd 21 rfl (by kernel_rfl)).at (P := LitP w10.heap.size) (by simp)); rw [hu21] at h21; obtain ⟨v1, w1x, hrun, hR1, hB1⟩ := app_empty W w10.heap.size hlow 30 b21 A5 c5 mF.slots h21 (Kd.C_below HCs10.out hj.out) HML.out; refine upon_append (s := .tmp 135) (x := .tmp 137) rfl ?_ ?_ hrun (GAt.mk (P := RowP w10.heap.size mF.slots) (hR1) (by intro p hp he; simp only [List.mem_cons, List.not_mem_nil, or_false] at hp; rcases hp with rfl | rfl | rfl | rfl <;> first | rfl | exact absurd he (by simp))) hB1; (dsimp only [Grow.fillM, List.foldl]; go_simp <;> exact hu21); (dsimp only [Grow.fillM, List.foldl]; go_simp)) ?_
    refine Grow.lexD_norm (fun K hK => ?_); go_simp; refine hK _ ?_; clear hK K
    refine Grow.lexD_make (by rfl) (by rfl) (by intro u lo hi W hj hd; have hlow : w10.heap.size ≤ W.heap.size := hj.out.size; obtain ⟨kc1, kc2⟩ := lay hj.out HKC10.out; obtain ⟨ki1, ki2⟩ := lay hj.out HKI10.out; obtain ⟨ks1, ks2⟩ := lay hj.out HKS10.out; obtain ⟨kr1, kr2⟩ := lay hj.out HKR10.out; obtain ⟨km1, km2⟩ := lay hj.out HKM10.out; have cZN0 := pC hj.out ZN0.out; have cZN3 := pC hj.out ZN3.out; have cZN4 := pC hj.out ZN4.out; have h18 : kInt.R 2 W w10.heap.size (fun _ => True) (u 18) (putI s.s0 j (0 + 1)) := ((hd 18 rfl (by kernel_rfl)).at (P := RowP w10.heap.size (putI s.s0 j (0 + 1))) (by simp)); obtain ⟨A18, c18, hu18⟩ := Kd.R_slice h18; rw [hu18] at h18; have h24 : kInt.R 2 W w10.heap.size (fun _ => True) (u 24) mF.slots := ((hd 24 rfl (by kernel_rfl)).at (P := RowP w10.heap.size mF.slots) (by simp)); obtain ⟨A24, c24, hu24⟩ := Kd.R_slice h24; rw [hu24] at h24; dsimp only [Grow.fillM, List.foldl]; go_simp; refine Grow.UponB.valR ?_; exact GAt.mk (P := AggP (fun vs => .agg #[.int .i64 (s.pos + 1), .int .i64 (-1), .int .i64 k, .int .i64 nt, .int .i64 nd, .int .i64 nl, vs.getD 0 undef, .slice A4 mF.regs.length c4, vs.getD 1 undef]) w10.heap.size [putI s.s0 j (0 + 1), mF.slots]) (⟨[.slice A18 _ c18, .slice A24 _ c24], rfl, rfl, fun k hk => by rcases (show k = 0 ∨ k = 1 by simp at hk; omega) with rfl | rfl; exact h18; exact h24⟩) (by intro p hp he; simp only [List.mem_cons, List.not_mem_nil, or_false] at hp; rcases hp with rfl | rfl | rfl | rfl <;> first | rfl | exact absurd he (by simp))) ?_
    refine Grow.lexD_norm (fun K hK => ?_); go_simp; refine hK _ ?_; clear hK K
    refine Grow.lexD_nil (fun u lo hi w11 hj hG hord => ?_)
    obtain ⟨vs, hu14, hvl, hvs⟩ := (show AggP (fun vs => .agg #[.int .i64 (s.pos + 1), .int .i64 (-1), .int .i64 k, .int .i64 nt, .int .i64 nd, .int .i64 nl, vs.getD 0 undef, .slice A4 mF.regs.length c4, vs.getD 1 undef]) w10.heap.size [putI s.s0 j (0 + 1), mF.slots] (u 25) (lo 25) w11 from ((hG 25 rfl).1).at (by simp))
    have hR9 : kInt.R 2 w11 w10.heap.size (fun _ => True) (vs.getD 0 undef) (putI s.s0 j (0 + 1)) := hvs 0 (by simp)
    have hR10 : kInt.R 2 w11 w10.heap.size (fun _ => True) (vs.getD 1 undef) mF.slots := hvs 1 (by simp)
    clear hG hord hvs
    dsimp only [List.foldl]
    dsimp only at hu14
    rw [hu14]
    generalize vs.getD 0 undef = v9 at *
    generalize vs.getD 1 undef = v10 at *
    clear hu14 hvl vs lo hi
    obtain ⟨A9, c9, rfl⟩ := Kd.R_slice hR9
    obtain ⟨A10, c10, rfl⟩ := Kd.R_slice hR10
    have hle : w.heap.size ≤ w10.heap.size := by have h1 := HSZ10.out; have h2 := HZ0.out; omega
    have HRz11 := sA (Kd.R_lower hR9 hle); have HRy11 := sA (Kd.R_lower hR10 hle); clear hR9 hR10 hle
    refine wpl_norm (fun K hK => ?_); go_simp; refine hK _ ?_; clear hK K
    have hb := hj.out; clear hj
    have HB11 := sA (bC HB10.out hb); have HKC11 := sA (bB HKC10.out hb); have HKI11 := sA (bB HKI10.out hb); have HKS11 := sA (bB HKS10.out hb); have HKR11 := sA (bB HKR10.out hb); have HKM11 := sA (bB HKM10.out hb); have HRN11 := sA (Kd.R_below HRN10.out hb); have HSZ11 := sA (Nat.le_trans HSZ10.out hb.size); have HCr11 := sA (Kd.C_below HCr10.out hb); have HCs11 := sA (Kd.C_below HCs10.out hb); clear hb
    obtain ⟨kc1, kc2⟩ := lay0 HKC11.out
    obtain ⟨ki1, ki2⟩ := lay0 HKI11.out
    obtain ⟨kr1, kr2⟩ := lay0 HKR11.out
    obtain ⟨km1, km2⟩ := lay0 HKM11.out
    go_wp2_with ((with_reducible refine gate_store (t := 49) (p := 10) rfl ?_); refine wpList_putAll rfl rfl _ _ _ rfl (g := w.heap.size + 1 + 1 + 1) [.int .i64 (s.pos + 1), .int .i64 (-1), .int .i64 k, .int .i64 nt, .int .i64 nd, .int .i64 nl, .slice A9 (putI s.s0 j (0 + 1)).length c9, .slice A4 mF.regs.length c4, .slice A10 mF.slots.length c10] rfl rfl (by kernel_rfl) (one_all rfl) HKR11.out rfl ?_; intro w12 hX hT hz; clear hz; clear kc1 kc2 ki1 ki2 kr1 kr2 km1 km2; have HCr12 := sA (c_tch HCr11.out HNr.out hT (by first | exact Or.inl rfl | exact Or.inr (Or.inl rfl) | exact rfl)); have HCs12 := sA (c_tch HCs11.out HNs.out hT (by first | exact Or.inl rfl | exact Or.inr (Or.inl rfl) | exact rfl)); (try simp only [List.setIfInBounds_toArray, List.set_cons_zero, List.set_cons_succ] at hX); have HB12 := sA (hT.below w (fun k hk => by rw [hk]; exact HGKR.out) HB11.out); have HKC12 := sA (tK hT HKR11.out HKC11.out (by decide)); have HKI12 := sA (tK hT HKR11.out HKI11.out (by decide)); have HKM12 := sA (tK hT HKR11.out HKM11.out (by decide)); have HRz12 := sA (row_tch HRz11.out hT HKR11.out (by decide)); have HRy12 := sA (row_tch HRy11.out hT HKR11.out (by decide)); have HSZ12 := sA (Nat.le_trans HSZ11.out hT.size); have HKR12 := sA hX; clear hX hT; obtain ⟨kc1, kc2⟩ := lay0 HKC12.out; obtain ⟨ki1, ki2⟩ := lay0 HKI12.out; obtain ⟨kr1, kr2⟩ := lay0 HKR12.out; obtain ⟨km1, km2⟩ := lay0 HKM12.out)
    clear kc1 kc2 ki1 ki2 kr1 kr2 km1 km2
    refine bodyPost_ret (results_cell Tryz.results76 rfl HKR12.out Tryz.underlying49 rfl (by kernel_rfl)) rfl ?_
    refine ⟨_, rfl, ?_, HB12.out⟩
    rw [HL.out]
    unfold goS
    rw [HNX.out.1, HNX.out.2.1, HNX.out.2.2, HN.out.2.1.1, HY.out]
    exact ⟨A9, c9, A4, c4, A10, c10, rfl, (Kd.R_reads' HRz12.out).2.2, HCr12.out, (Kd.R_reads' HRy12.out).2.2, HCP.out, NotIn.of_R HRz12.out HFF.out, fun a he hp hh => HNr.out a he hp (Or.inr (Or.inr hh)), NotIn.of_R HRy12.out HFF.out⟩
set_option maxRecDepth 100000 in
set_option maxHeartbeats 8000000 in
theorem spec_StepState_bad0 (u v1 t : Value) (c : Code) (hc : ReadCode w u c) (x : Inst) (hx : ReadInst w v1 x) (kv : Nat) (s : St) (F : Nat → Prop) (hs : ReadStN w t s F) (hF : ∀ b, F b → b < w.heap.size) (hsm : s.small) (hok : stateOk c x kv s = true) (hR : Run c x kv s) (hp : s.pos < 4096) (k j : Nat) (hj : j < x.qs.length) (hk : k = x.vs.length + (2 * j + 0)) (hy : atI s.s0 j ≠ 0) :
    Calls Tryz.prog 76 #[u, v1, .int .i64 kv, t, .int .i64 k] w fun e w' => ∃ t', e = .returned t' ∧ ReadStN w' t' (stepS c x kv s k) F ∧ Below w.heap.size w w' := by
  have HX := sA (And.intro hc (And.intro hx hs.readC.read))
  have hpos : (s.pos == -1) = false := beq_eq_false_iff_ne.2 (by have := hR.p0; omega)
  have hpos2 : decide (s.pos = -1) = false := decide_eq_false (by have := hR.p0; omega)
  have hru : decide (0 ≤ s.rule) = false := decide_eq_false (by have := hR.rule; omega)
  have hps : (s.pos == 4096) = false := beq_eq_false_iff_ne.2 (by omega)
  have hps2 : decide (s.pos = 4096) = false := decide_eq_false (by omega)
  have qp : IntKind.i64.wrap (s.pos + 1) = s.pos + 1 := IntWalk.i64_in _ (by have := hR.p0; omega)
  have hvs : ∀ (W : World) (u v1 t : Value), ReadCode W u c → ReadInst W v1 x → ReadState W t s → Calls Tryz.prog 26 #[u, v1, .int .i64 kv, t] W fun e w' => e = .returned (.bool true) ∧ Below W.heap.size W w' := fun W u v1 t h1 h2 h3 => hok ▸ spec_ValidState W u v1 t c h1 x h2 kv s h3 hsm
  have hnode : (k : Int) < x.nodes := by unfold Inst.nodes; omega
  have hst : x.stop (k : Int) = true := by unfold Inst.stop Inst.nodes; exact (inB_iff _ _ _).2 ⟨by omega, by omega⟩
  have hkv := hR.hv; have hxv := hR.val; have hcv := hR.cv
  obtain ⟨f0, f1, f2, hnear⟩ := Inst.few_near hxv
  have hsm' : x.small := ⟨by omega, by omega, by omega⟩
  have hrq : x.reqI k = (j : Int) ∧ ((k : Int) - x.vs.length).tmod 2 = 0 := by
    have e : ((k : Int) - x.vs.length) = ((2 * j + 0 : Nat) : Int) := by omega
    unfold Inst.reqI
    rw [e]
    refine ⟨?_, ?_⟩
    · show ((2 * j + 0 : Nat) : Int).tdiv ((2 : Nat) : Int) = _; rw [← Int.ofNat_tdiv]; omega
    · show ((2 * j + 0 : Nat) : Int).tmod ((2 : Nat) : Int) = _; rw [← Int.ofNat_tmod]; omega
  have hpk : x.pick k = true ∧ x.dropB k = false := by
    unfold Inst.pick Inst.dropB
    rw [hst, hrq.2]
    exact ⟨rfl, rfl⟩
  have hstp : ∀ (W : World) (u : Value), ReadInst W u x → Calls Tryz.prog 49 #[u, .int .i64 k] W fun e w' => e = .returned (.bool true) ∧ Below W.heap.size W w' := fun W u h => (show inB (k : Int) x.vs.length (x.nodes - 1) = true from hst) ▸ spec_stop W u x h hsm' k
  have hreq : ∀ (W : World) (u : Value), ReadInst W u x → Calls Tryz.prog 93 #[u, .int .i64 k] W fun e w' => e = .returned (.int .i64 j) ∧ Below W.heap.size W w' := fun W u h => hrq.1 ▸ spec_req W u x h hsm' k (by omega)
  have hpck : ∀ (W : World) (u : Value), ReadInst W u x → Calls Tryz.prog 56 #[u, .int .i64 k] W fun e w' => e = .returned (.bool true) ∧ Below W.heap.size W w' := fun W u h => hpk.1 ▸ spec_pick W u x h hsm' k
  have hdrp : ∀ (W : World) (u : Value), ReadInst W u x → Calls Tryz.prog 57 #[u, .int .i64 k] W fun e w' => e = .returned (.bool false) ∧ Below W.heap.size W w' := fun W u h => hpk.2 ▸ spec_drop W u x h hsm' k
  have HCC := sA (And.intro hvs (And.intro hstp (And.intro hreq (And.intro hpck hdrp)))); clear hvs hstp hreq hpck hdrp
  have HN := sA (And.intro hst (And.intro hrq hnode))
  have hz0 := hR.z0
  have HR := sA hR
  have hjI : (j : Int) < (x.qs.length : Int) := by omega
  have hjS : (j : Int) < (s.s0.length : Int) := by omega
  have hkvI : (kv : Int) < (x.vs.length : Int) := by omega
  have hl0 : s.s0.length ≤ 1000 := by omega
  obtain ⟨A0, c0, A1, c1, A2, c2, rfl, a0, a1, a2⟩ := hc
  obtain ⟨B0, d0, B1, d1, B2, d2, rfl, b0, b1, b2⟩ := hx
  obtain ⟨S0, g0, S1, g1, S2, g2, rfl, s0, s1, s2, hcap, n0, n1, n2⟩ := hs
  have HNI := sA n2; have HFF := sA hF; clear n0 n1 n2 hF
  obtain ⟨ad, e0, t0, t1⟩ := Kd.flat_cells (d := kVeh) rfl b0 zV kv hkv
  cases e0
  have ZS := sA (t1 0 _ rfl); clear t0 t1
  generalize hsk : (x.vs.getD kv zV).skills = sk at ZS
  obtain ⟨aq, e0, t0, t1⟩ := Kd.flat_cells (d := kReq) rfl b1 zQ j hj
  cases e0
  have ZG := sA (t1 0 _ rfl); clear t0 t1
  generalize htg : (x.qs.getD j zQ).tags = tg at ZG
  obtain ⟨az, e0, z0⟩ := int_at s0 (k := j) (by omega)
  cases e0
  have hE : envOf x kv j = ⟨tg, sk, j, x.qs.length⟩ := by unfold envOf; rw [if_neg (by omega), hsk, Int.toNat_natCast, htg]
  have HE := sA hE
  have HS := sA (And.intro s0 (And.intro s1 (And.intro s2 hcap))); have HBK := sA a1
  clear a0 a1 a2 b0 b1 b2 s0 s1 s2 hcap hok hnear hst hrq hnode hpk hR hsk htg hE hz0 hk hsm
  have HL := sA (show stepS c x kv s k = failS (s.pos + 1) 0 by unfold stepS; rw [if_neg (by have := HR.out.rule; omega), HN.out.2.1.1, HN.out.2.1.2, if_pos hy])
  generalize atI s.s0 j = y at hy z0
  have ZT := sA z0; clear z0
  have y1 : (y == 0) = false := beq_eq_false_iff_ne.2 hy
  have y2 : decide (y = 0) = false := decide_eq_false hy
  have y3 : (y != 0) = true := bne_iff_ne.2 hy
  have y4 : (!decide (y = 0)) = true := by rw [y2]; rfl
  clear hy
  obtain ⟨HB0, HKC0, HKI0, HKS0, HKR0, HZ0⟩ := opens4 w (.cells #[.int .i64 c.regs, .int .i64 c.slots, .slice A0 c.b0.length c0, .slice A1 c.b1.length c1, .slice A2 c.b2.length c2] 41) (.cells #[.slice (some ad) x.vs.length d0, .slice (some aq) x.qs.length d1, .slice B2 x.rs.length d2] 47) (.cells #[.int .i64 s.pos, .int .i64 s.rule, .int .i64 s.node, .int .i64 s.time, .int .i64 s.dist, .int .i64 s.load, .slice (some az) s.s0.length g0, .slice S1 s.s1.length g1, .slice S2 s.s2.length g2] 49) (.cells #[.int .i64 0, .int .i64 0, .int .i64 0, .int .i64 0, .int .i64 0, .int .i64 0, .slice none 0 0, .slice none 0 0, .slice none 0 0] 49)
  have HGKC := sA (show w.heap.size ≤ w.heap.size from Nat.le_add_right _ 0)
  have HGKI := sA (show w.heap.size ≤ w.heap.size + 1 from Nat.le_add_right _ 1)
  have HGKS := sA (show w.heap.size ≤ w.heap.size + 1 + 1 from Nat.le_add_right _ 2)
  have HGKR := sA (show w.heap.size ≤ w.heap.size + 1 + 1 + 1 from Nat.le_add_right _ 3)
  have HSZ0 := sA (Nat.le_refl ((((w.alloc (.cells #[.int .i64 c.regs, .int .i64 c.slots, .slice A0 c.b0.length c0, .slice A1 c.b1.length c1, .slice A2 c.b2.length c2] 41)).alloc (.cells #[.slice (some ad) x.vs.length d0, .slice (some aq) x.qs.length d1, .slice B2 x.rs.length d2] 47)).alloc (.cells #[.int .i64 s.pos, .int .i64 s.rule, .int .i64 s.node, .int .i64 s.time, .int .i64 s.dist, .int .i64 s.load, .slice (some az) s.s0.length g0, .slice S1 s.s1.length g1, .slice S2 s.s2.length g2] 49)).alloc (.cells #[.int .i64 0, .int .i64 0, .int .i64 0, .int .i64 0, .int .i64 0, .int .i64 0, .slice none 0 0, .slice none 0 0, .slice none 0 0] 49)).heap.size)
  go_enter Tryz.func76, Tryz.ntmps76
  go_wp2_with fail
  go_at_call 26
  refine (HCC.out.1 _ _ _ _ (HX.out.1.below HB0.out) (HX.out.2.1.below HB0.out) (HX.out.2.2.below HB0.out)).mono ?_
  rintro e w1 ⟨rfl, hb⟩
  have HB1 := sA (bC HB0.out hb); have HKC1 := sA (bB HKC0.out hb); have HKI1 := sA (bB HKI0.out hb); have HKS1 := sA (bB HKS0.out hb); have HKR1 := sA (bB HKR0.out hb); have HSZ1 := sA (Nat.le_trans HSZ0.out hb.size); clear hb
  obtain ⟨kc1, kc2⟩ := lay0 HKC1.out
  obtain ⟨ki1, ki2⟩ := lay0 HKI1.out
  obtain ⟨ks1, ks2⟩ := lay0 HKS1.out
  obtain ⟨kr1, kr2⟩ := lay0 HKR1.out
  go_wp2_with fail
  clear kc1 kc2 ki1 ki2 ks1 ks2 kr1 kr2
  go_at_call 49
  refine (HCC.out.2.1 _ _ (HX.out.2.1.below HB1.out)).mono ?_
  rintro e w2 ⟨rfl, hb⟩
  have HB2 := sA (bC HB1.out hb); have HKC2 := sA (bB HKC1.out hb); have HKI2 := sA (bB HKI1.out hb); have HKS2 := sA (bB HKS1.out hb); have HKR2 := sA (bB HKR1.out hb); have HSZ2 := sA (Nat.le_trans HSZ1.out hb.size); clear hb
  obtain ⟨kc1, kc2⟩ := lay0 HKC2.out
  obtain ⟨ki1, ki2⟩ := lay0 HKI2.out
  obtain ⟨ks1, ks2⟩ := lay0 HKS2.out
  obtain ⟨kr1, kr2⟩ := lay0 HKR2.out
  go_wp2_with fail
  clear kc1 kc2 ki1 ki2 ks1 ks2 kr1 kr2
  go_at_call 93
  refine (HCC.out.2.2.1 _ _ (HX.out.2.1.below HB2.out)).mono ?_
  rintro e w3 ⟨rfl, hb⟩
  have HB3 := sA (bC HB2.out hb); have HKC3 := sA (bB HKC2.out hb); have HKI3 := sA (bB HKI2.out hb); have HKS3 := sA (bB HKS2.out hb); have HKR3 := sA (bB HKR2.out hb); have HSZ3 := sA (Nat.le_trans HSZ2.out hb.size); clear hb
  obtain ⟨kc1, kc2⟩ := lay0 HKC3.out
  obtain ⟨ki1, ki2⟩ := lay0 HKI3.out
  obtain ⟨ks1, ks2⟩ := lay0 HKS3.out
  obtain ⟨kr1, kr2⟩ := lay0 HKR3.out
  have cZT := pC HB3.out ZT.out
  go_wp2_with fail
  clear kc1 kc2 ki1 ki2 ks1 ks2 kr1 kr2 cZT
  go_at_call 56
  refine (HCC.out.2.2.2.1 _ _ (HX.out.2.1.below HB3.out)).mono ?_
  rintro e w4 ⟨rfl, hb⟩
  have HB4 := sA (bC HB3.out hb); have HKC4 := sA (bB HKC3.out hb); have HKI4 := sA (bB HKI3.out hb); have HKS4 := sA (bB HKS3.out hb); have HKR4 := sA (bB HKR3.out hb); have HSZ4 := sA (Nat.le_trans HSZ3.out hb.size); clear hb
  obtain ⟨kc1, kc2⟩ := lay0 HKC4.out
  obtain ⟨ki1, ki2⟩ := lay0 HKI4.out
  obtain ⟨ks1, ks2⟩ := lay0 HKS4.out
  obtain ⟨kr1, kr2⟩ := lay0 HKR4.out
  go_wp2_with fail
  clear kc1 kc2 ki1 ki2 ks1 ks2 kr1 kr2
  go_at_call 113
  refine (spec_failed _ (s.pos + 1) 0).mono ?_
  rintro e w5 ⟨rfl, hb⟩
  have HB5 := sA (bC HB4.out hb); have HKC5 := sA (bB HKC4.out hb); have HKI5 := sA (bB HKI4.out hb); have HKS5 := sA (bB HKS4.out hb); have HKR5 := sA (bB HKR4.out hb); have HSZ5 := sA (Nat.le_trans HSZ4.out hb.size); clear hb
  obtain ⟨kc1, kc2⟩ := lay0 HKC5.out
  obtain ⟨ki1, ki2⟩ := lay0 HKI5.out
  obtain ⟨kr1, kr2⟩ := lay0 HKR5.out
  go_wp2_with ((with_reducible refine gate_store (t := 49) (p := 10) rfl ?_); refine wpList_putAll rfl rfl _ _ _ rfl (g := w.heap.size + 1 + 1 + 1) [.int .i64 (s.pos + 1), .int .i64 0, .int .i64 0, .int .i64 0, .int .i64 0, .int .i64 0, .slice none 0 0, .slice none 0 0, .slice none 0 0] rfl rfl (by kernel_rfl) (one_all rfl) HKR5.out rfl ?_; intro w6 hX hT hz; clear hz; clear kc1 kc2 ki1 ki2 kr1 kr2; (try simp only [List.setIfInBounds_toArray, List.set_cons_zero, List.set_cons_succ] at hX); have HB6 := sA (hT.below w (fun k hk => by rw [hk]; exact HGKR.out) HB5.out); have HKC6 := sA (tK hT HKR5.out HKC5.out (by decide)); have HKI6 := sA (tK hT HKR5.out HKI5.out (by decide)); have HSZ6 := sA (Nat.le_trans HSZ5.out hT.size); have HKR6 := sA hX; clear hX hT; obtain ⟨kc1, kc2⟩ := lay0 HKC6.out; obtain ⟨ki1, ki2⟩ := lay0 HKI6.out; obtain ⟨kr1, kr2⟩ := lay0 HKR6.out)
  clear kc1 kc2 ki1 ki2 kr1 kr2
  refine bodyPost_ret (results_cell Tryz.results76 rfl HKR6.out Tryz.underlying49 rfl (by kernel_rfl)) rfl ?_
  exact ⟨_, rfl, HL.out ▸ readStN_failed _ (s.pos + 1) 0 F, HB6.out⟩
set_option maxRecDepth 100000 in
set_option maxHeartbeats 8000000 in
theorem spec_StepState_go1 (u v1 t : Value) (c : Code) (hc : ReadCode w u c) (x : Inst) (hx : ReadInst w v1 x) (kv : Nat) (s : St) (F : Nat → Prop) (hs : ReadStN w t s F) (hF : ∀ b, F b → b < w.heap.size) (hsm : s.small) (hok : stateOk c x kv s = true) (hR : Run c x kv s) (hp : s.pos < 4096) (k j : Nat) (hj : j < x.qs.length) (hk : k = x.vs.length + (2 * j + 1)) (hy : atI s.s0 j = 1) :
    Calls Tryz.prog 76 #[u, v1, .int .i64 kv, t, .int .i64 k] w fun e w' => ∃ t', e = .returned t' ∧ ReadStN w' t' (stepS c x kv s k) F ∧ Below w.heap.size w w' := by
  have HX := sA (And.intro hc (And.intro hx hs.readC.read))
  have hpos : (s.pos == -1) = false := beq_eq_false_iff_ne.2 (by have := hR.p0; omega)
  have hpos2 : decide (s.pos = -1) = false := decide_eq_false (by have := hR.p0; omega)
  have hru : decide (0 ≤ s.rule) = false := decide_eq_false (by have := hR.rule; omega)
  have hps : (s.pos == 4096) = false := beq_eq_false_iff_ne.2 (by omega)
  have hps2 : decide (s.pos = 4096) = false := decide_eq_false (by omega)
  have qp : IntKind.i64.wrap (s.pos + 1) = s.pos + 1 := IntWalk.i64_in _ (by have := hR.p0; omega)
  have hvs : ∀ (W : World) (u v1 t : Value), ReadCode W u c → ReadInst W v1 x → ReadState W t s → Calls Tryz.prog 26 #[u, v1, .int .i64 kv, t] W fun e w' => e = .returned (.bool true) ∧ Below W.heap.size W w' := fun W u v1 t h1 h2 h3 => hok ▸ spec_ValidState W u v1 t c h1 x h2 kv s h3 hsm
  have hnode : (k : Int) < x.nodes := by unfold Inst.nodes; omega
  have hst : x.stop (k : Int) = true := by unfold Inst.stop Inst.nodes; exact (inB_iff _ _ _).2 ⟨by omega, by omega⟩
  have hkv := hR.hv; have hxv := hR.val; have hcv := hR.cv
  obtain ⟨f0, f1, f2, hnear⟩ := Inst.few_near hxv
  have hsm' : x.small := ⟨by omega, by omega, by omega⟩
  have hrq : x.reqI k = (j : Int) ∧ ((k : Int) - x.vs.length).tmod 2 = 1 := by
    have e : ((k : Int) - x.vs.length) = ((2 * j + 1 : Nat) : Int) := by omega
    unfold Inst.reqI
    rw [e]
    refine ⟨?_, ?_⟩
    · show ((2 * j + 1 : Nat) : Int).tdiv ((2 : Nat) : Int) = _; rw [← Int.ofNat_tdiv]; omega
    · show ((2 * j + 1 : Nat) : Int).tmod ((2 : Nat) : Int) = _; rw [← Int.ofNat_tmod]; omega
  have hpk : x.pick k = false ∧ x.dropB k = true := by
    unfold Inst.pick Inst.dropB
    rw [hst, hrq.2]
    exact ⟨rfl, rfl⟩
  have hstp : ∀ (W : World) (u : Value), ReadInst W u x → Calls Tryz.prog 49 #[u, .int .i64 k] W fun e w' => e = .returned (.bool true) ∧ Below W.heap.size W w' := fun W u h => (show inB (k : Int) x.vs.length (x.nodes - 1) = true from hst) ▸ spec_stop W u x h hsm' k
  have hreq : ∀ (W : World) (u : Value), ReadInst W u x → Calls Tryz.prog 93 #[u, .int .i64 k] W fun e w' => e = .returned (.int .i64 j) ∧ Below W.heap.size W w' := fun W u h => hrq.1 ▸ spec_req W u x h hsm' k (by omega)
  have hpck : ∀ (W : World) (u : Value), ReadInst W u x → Calls Tryz.prog 56 #[u, .int .i64 k] W fun e w' => e = .returned (.bool false) ∧ Below W.heap.size W w' := fun W u h => hpk.1 ▸ spec_pick W u x h hsm' k
  have hdrp : ∀ (W : World) (u : Value), ReadInst W u x → Calls Tryz.prog 57 #[u, .int .i64 k] W fun e w' => e = .returned (.bool true) ∧ Below W.heap.size W w' := fun W u h => hpk.2 ▸ spec_drop W u x h hsm' k
  have HCC := sA (And.intro hvs (And.intro hstp (And.intro hreq (And.intro hpck hdrp)))); clear hvs hstp hreq hpck hdrp
  have HN := sA (And.intro hst (And.intro hrq hnode))
  have hz0 := hR.z0
  have HR := sA hR
  have hjI : (j : Int) < (x.qs.length : Int) := by omega
  have hjS : (j : Int) < (s.s0.length : Int) := by omega
  have hkvI : (kv : Int) < (x.vs.length : Int) := by omega
  have hl0 : s.s0.length ≤ 1000 := by omega
  obtain ⟨A0, c0, A1, c1, A2, c2, rfl, a0, a1, a2⟩ := hc
  obtain ⟨B0, d0, B1, d1, B2, d2, rfl, b0, b1, b2⟩ := hx
  obtain ⟨S0, g0, S1, g1, S2, g2, rfl, s0, s1, s2, hcap, n0, n1, n2⟩ := hs
  have HNI := sA n2; have HFF := sA hF; clear n0 n1 n2 hF
  obtain ⟨ad, e0, t0, t1⟩ := Kd.flat_cells (d := kVeh) rfl b0 zV kv hkv
  cases e0
  have ZS := sA (t1 0 _ rfl); clear t0 t1
  generalize hsk : (x.vs.getD kv zV).skills = sk at ZS
  obtain ⟨aq, e0, t0, t1⟩ := Kd.flat_cells (d := kReq) rfl b1 zQ j hj
  cases e0
  have ZG := sA (t1 0 _ rfl); clear t0 t1
  generalize htg : (x.qs.getD j zQ).tags = tg at ZG
  obtain ⟨az, e0, z0⟩ := int_at s0 (k := j) (by omega)
  cases e0
  have hE : envOf x kv j = ⟨tg, sk, j, x.qs.length⟩ := by unfold envOf; rw [if_neg (by omega), hsk, Int.toNat_natCast, htg]
  have HE := sA hE
  have HS := sA (And.intro s0 (And.intro s1 (And.intro s2 hcap))); have HBK := sA a1
  clear a0 a1 a2 b0 b1 b2 s0 s1 s2 hcap hok hnear hst hrq hnode hpk hR hsk htg hE hz0 hk hsm
  rw [hy] at z0
  have ZT := sA z0; clear z0
  have HY := sA hy; clear hy
  obtain ⟨HB0, HKC0, HKI0, HKS0, HKR0, HZ0⟩ := opens4 w (.cells #[.int .i64 c.regs, .int .i64 c.slots, .slice A0 c.b0.length c0, .slice A1 c.b1.length c1, .slice A2 c.b2.length c2] 41) (.cells #[.slice (some ad) x.vs.length d0, .slice (some aq) x.qs.length d1, .slice B2 x.rs.length d2] 47) (.cells #[.int .i64 s.pos, .int .i64 s.rule, .int .i64 s.node, .int .i64 s.time, .int .i64 s.dist, .int .i64 s.load, .slice (some az) s.s0.length g0, .slice S1 s.s1.length g1, .slice S2 s.s2.length g2] 49) (.cells #[.int .i64 0, .int .i64 0, .int .i64 0, .int .i64 0, .int .i64 0, .int .i64 0, .slice none 0 0, .slice none 0 0, .slice none 0 0] 49)
  have HGKC := sA (show w.heap.size ≤ w.heap.size from Nat.le_add_right _ 0)
  have HGKI := sA (show w.heap.size ≤ w.heap.size + 1 from Nat.le_add_right _ 1)
  have HGKS := sA (show w.heap.size ≤ w.heap.size + 1 + 1 from Nat.le_add_right _ 2)
  have HGKR := sA (show w.heap.size ≤ w.heap.size + 1 + 1 + 1 from Nat.le_add_right _ 3)
  have HSZ0 := sA (Nat.le_refl ((((w.alloc (.cells #[.int .i64 c.regs, .int .i64 c.slots, .slice A0 c.b0.length c0, .slice A1 c.b1.length c1, .slice A2 c.b2.length c2] 41)).alloc (.cells #[.slice (some ad) x.vs.length d0, .slice (some aq) x.qs.length d1, .slice B2 x.rs.length d2] 47)).alloc (.cells #[.int .i64 s.pos, .int .i64 s.rule, .int .i64 s.node, .int .i64 s.time, .int .i64 s.dist, .int .i64 s.load, .slice (some az) s.s0.length g0, .slice S1 s.s1.length g1, .slice S2 s.s2.length g2] 49)).alloc (.cells #[.int .i64 0, .int .i64 0, .int .i64 0, .int .i64 0, .int .i64 0, .int .i64 0, .slice none 0 0, .slice none 0 0, .slice none 0 0] 49)).heap.size)
  go_enter Tryz.func76, Tryz.ntmps76
  go_wp2_with fail
  go_at_call 26
  refine (HCC.out.1 _ _ _ _ (HX.out.1.below HB0.out) (HX.out.2.1.below HB0.out) (HX.out.2.2.below HB0.out)).mono ?_
  rintro e w1 ⟨rfl, hb⟩
  have HB1 := sA (bC HB0.out hb); have HKC1 := sA (bB HKC0.out hb); have HKI1 := sA (bB HKI0.out hb); have HKS1 := sA (bB HKS0.out hb); have HKR1 := sA (bB HKR0.out hb); have HSZ1 := sA (Nat.le_trans HSZ0.out hb.size); clear hb
  obtain ⟨kc1, kc2⟩ := lay0 HKC1.out
  obtain ⟨ki1, ki2⟩ := lay0 HKI1.out
  obtain ⟨ks1, ks2⟩ := lay0 HKS1.out
  obtain ⟨kr1, kr2⟩ := lay0 HKR1.out
  go_wp2_with fail
  clear kc1 kc2 ki1 ki2 ks1 ks2 kr1 kr2
  go_at_call 49
  refine (HCC.out.2.1 _ _ (HX.out.2.1.below HB1.out)).mono ?_
  rintro e w2 ⟨rfl, hb⟩
  have HB2 := sA (bC HB1.out hb); have HKC2 := sA (bB HKC1.out hb); have HKI2 := sA (bB HKI1.out hb); have HKS2 := sA (bB HKS1.out hb); have HKR2 := sA (bB HKR1.out hb); have HSZ2 := sA (Nat.le_trans HSZ1.out hb.size); clear hb
  obtain ⟨kc1, kc2⟩ := lay0 HKC2.out
  obtain ⟨ki1, ki2⟩ := lay0 HKI2.out
  obtain ⟨ks1, ks2⟩ := lay0 HKS2.out
  obtain ⟨kr1, kr2⟩ := lay0 HKR2.out
  go_wp2_with fail
  clear kc1 kc2 ki1 ki2 ks1 ks2 kr1 kr2
  go_at_call 93
  refine (HCC.out.2.2.1 _ _ (HX.out.2.1.below HB2.out)).mono ?_
  rintro e w3 ⟨rfl, hb⟩
  have HB3 := sA (bC HB2.out hb); have HKC3 := sA (bB HKC2.out hb); have HKI3 := sA (bB HKI2.out hb); have HKS3 := sA (bB HKS2.out hb); have HKR3 := sA (bB HKR2.out hb); have HSZ3 := sA (Nat.le_trans HSZ2.out hb.size); clear hb
  obtain ⟨kc1, kc2⟩ := lay0 HKC3.out
  obtain ⟨ki1, ki2⟩ := lay0 HKI3.out
  obtain ⟨ks1, ks2⟩ := lay0 HKS3.out
  obtain ⟨kr1, kr2⟩ := lay0 HKR3.out
  have cZT := pC HB3.out ZT.out
  go_wp2_with fail
  clear kc1 kc2 ki1 ki2 ks1 ks2 kr1 kr2 cZT
  go_at_call 56
  refine (HCC.out.2.2.2.1 _ _ (HX.out.2.1.below HB3.out)).mono ?_
  rintro e w4 ⟨rfl, hb⟩
  have HB4 := sA (bC HB3.out hb); have HKC4 := sA (bB HKC3.out hb); have HKI4 := sA (bB HKI3.out hb); have HKS4 := sA (bB HKS3.out hb); have HKR4 := sA (bB HKR3.out hb); have HSZ4 := sA (Nat.le_trans HSZ3.out hb.size); clear hb
  obtain ⟨kc1, kc2⟩ := lay0 HKC4.out
  obtain ⟨ki1, ki2⟩ := lay0 HKI4.out
  obtain ⟨ks1, ks2⟩ := lay0 HKS4.out
  obtain ⟨kr1, kr2⟩ := lay0 HKR4.out
  have cZT := pC HB4.out ZT.out
  go_wp2_with fail
  clear kc1 kc2 ki1 ki2 ks1 ks2 kr1 kr2 cZT
  go_at_call 57
  refine (HCC.out.2.2.2.2 _ _ (HX.out.2.1.below HB4.out)).mono ?_
  rintro e w5 ⟨rfl, hb⟩
  have HB5 := sA (bC HB4.out hb); have HKC5 := sA (bB HKC4.out hb); have HKI5 := sA (bB HKI4.out hb); have HKS5 := sA (bB HKS4.out hb); have HKR5 := sA (bB HKR4.out hb); have HSZ5 := sA (Nat.le_trans HSZ4.out hb.size); clear hb
  obtain ⟨kc1, kc2⟩ := lay0 HKC5.out
  obtain ⟨ki1, ki2⟩ := lay0 HKI5.out
  obtain ⟨ks1, ks2⟩ := lay0 HKS5.out
  obtain ⟨kr1, kr2⟩ := lay0 HKR5.out
  go_wp2_with fail
  clear kc1 kc2 ki1 ki2 ks1 ks2 kr1 kr2
  go_at_call 28
  refine (spec_next _ _ _ x (HX.out.2.1.below HB5.out) kv s (HX.out.2.2.below HB5.out) k hxv hkv HR.out.n0 HR.out.n1 (by omega) HN.out.2.2 (by have := HR.out.p0; omega) (by have := HR.out.p1; omega)).mono ?_
  rintro e w6 ⟨v, rfl, hr, hb⟩
  have HB6 := sA (bC HB5.out hb); have HKC6 := sA (bB HKC5.out hb); have HKI6 := sA (bB HKI5.out hb); have HKS6 := sA (bB HKS5.out hb); have HKR6 := sA (bB HKR5.out hb); have HSZ6 := sA (Nat.le_trans HSZ5.out hb.size); clear hb
  obtain ⟨gn, cN, rfl, _⟩ := Kd.R_form hr (by rw [nextA_len]; omega)
  have hr' := Kd.R_lower hr (show w.heap.size ≤ w5.heap.size from by have h1 := HSZ5.out; have h2 := HZ0.out; omega)
  have HRN6 := sA hr'; clear hr hr'
  rw [nextA_len]
  obtain ⟨kc1, kc2⟩ := lay0 HKC6.out
  obtain ⟨ki1, ki2⟩ := lay0 HKI6.out
  obtain ⟨ks1, ks2⟩ := lay0 HKS6.out
  obtain ⟨kr1, kr2⟩ := lay0 HKR6.out
  go_wp2_with fail
  clear kc1 kc2 ki1 ki2 ks1 ks2 kr1 kr2
  refine Grow.wp_region_deps 24 ⟨[(3, 81), (22, 100), (23, 14)], fun i v lo hi W => GAt [(3, RowP w6.heap.size (stepM x kv s k).regs), (22, AggP (fun vs => .agg #[vs.getD 0 undef, .slice S2 s.s2.length g2, .int .i64 tg, .int .i64 sk, .int .i64 j, .int .i64 x.qs.length, .int .i64 (-1)]) w6.heap.size [(stepM x kv s k).regs]), (23, BoxG #[.slice none 0 0, .slice none 0 0, .int .i64 0, .int .i64 0, .int .i64 0, .int .i64 0, .int .i64 0] 73)] i v lo W, fun i v lo hi W W' hb h => GAt.stays (l := [(3, RowP w6.heap.size (stepM x kv s k).regs), (22, AggP (fun vs => .agg #[vs.getD 0 undef, .slice S2 s.s2.length g2, .int .i64 tg, .int .i64 sk, .int .i64 j, .int .i64 x.qs.length, .int .i64 (-1)]) w6.heap.size [(stepM x kv s k).regs]), (23, BoxG #[.slice none 0 0, .slice none 0 0, .int .i64 0, .int .i64 0, .int .i64 0, .int .i64 0, .int .i64 0] 73)]) ⟨RowP.stays _ _, AggP.stays _ _ _, BoxG.stays _ _, trivial⟩ i v lo hi W W' hb h⟩ (by kernel_rfl) (show List.Pairwise (fun p q : Nat × Tmp => p.1 ≠ q.1 ∧ p.2 ≠ q.2) [(3, 81), (22, 100), (23, 14)] from by decide) (by kernel_rfl) (by rfl) ?_
  dsimp only [List.take, List.drop]
  repeat (refine Grow.lexD_do _ (by rfl) (by rfl) (by intro W hj; obtain ⟨kc1, kc2⟩ := lay hj.out HKC6.out; obtain ⟨ki1, ki2⟩ := lay hj.out HKI6.out; obtain ⟨ks1, ks2⟩ := lay hj.out HKS6.out; obtain ⟨kr1, kr2⟩ := lay hj.out HKR6.out; have cZS := pC (bC HB6.out hj.out) ZS.out; have cZG := pC (bC HB6.out hj.out) ZG.out; go_simp; first | exact Grow.UponB.val) ?_; refine Grow.lexD_norm (fun K hK => ?_); go_simp; refine hK _ ?_; clear hK K)
  refine Grow.lexD_make (by rfl) (by rfl) (by intro u lo hi W hj hd; have hlow : w6.heap.size ≤ W.heap.size := hj.out.size; obtain ⟨kc1, kc2⟩ := lay hj.out HKC6.out; obtain ⟨ki1, ki2⟩ := lay hj.out HKI6.out; obtain ⟨ks1, ks2⟩ := lay hj.out HKS6.out; obtain ⟨kr1, kr2⟩ := lay hj.out HKR6.out; have cZS := pC (bC HB6.out hj.out) ZS.out; have cZG := pC (bC HB6.out hj.out) ZG.out; dsimp only [Grow.fillM, List.foldl]; go_simp; have hCN := (Kd.R_reads' (Kd.R_below HRN6.out hj.out)).2.2; have cc := spec_over W S1 (some ⟨gn, 0, none⟩) g1 cN s.s1 (nextA x kv s k) (Kd.C_below HS.out.2.1 (bC HB6.out hj.out)) hCN HS.out.2.2.2 (by have := HR.out.z1; have := (Code.facts hcv).1; omega) (by have := HR.out.z1; have := (Code.facts hcv).2.1; omega) (by rw [nextA_len]; omega); rw [nextA_len] at cc; refine Grow.UponB.made ?_; (with_reducible refine Calls.mono cc ?_); rintro e w' ⟨v, rfl, hr, hb⟩; exact ⟨_, rfl, GAt.mk (P := RowP w6.heap.size (stepM x kv s k).regs) (Kd.R_lower hr hlow) (by intro p hp he; simp only [List.mem_cons, List.not_mem_nil, or_false] at hp; rcases hp with rfl | rfl | rfl <;> first | rfl | exact absurd he (by simp)), hb⟩) ?_
  refine Grow.lexD_norm (fun K hK => ?_); go_simp; refine hK _ ?_; clear hK K
  repeat (refine Grow.lexD_do _ (by rfl) (by rfl) (by intro W hj; obtain ⟨kc1, kc2⟩ := lay hj.out HKC6.out; obtain ⟨ki1, ki2⟩ := lay hj.out HKI6.out; obtain ⟨ks1, ks2⟩ := lay hj.out HKS6.out; obtain ⟨kr1, kr2⟩ := lay hj.out HKR6.out; have cZS := pC (bC HB6.out hj.out) ZS.out; have cZG := pC (bC HB6.out hj.out) ZG.out; go_simp; first | exact Grow.UponB.val) ?_; refine Grow.lexD_norm (fun K hK => ?_); go_simp; refine hK _ ?_; clear hK K)
  refine Grow.lexD_make (by rfl) (by rfl) (by intro u lo hi W hj hd; have hlow : w6.heap.size ≤ W.heap.size := hj.out.size; obtain ⟨kc1, kc2⟩ := lay hj.out HKC6.out; obtain ⟨ki1, ki2⟩ := lay hj.out HKI6.out; obtain ⟨ks1, ks2⟩ := lay hj.out HKS6.out; obtain ⟨kr1, kr2⟩ := lay hj.out HKR6.out; have cZS := pC (bC HB6.out hj.out) ZS.out; have cZG := pC (bC HB6.out hj.out) ZG.out; have h3 : kInt.R 2 W w6.heap.size (fun _ => True) (u 3) (stepM x kv s k).regs := ((hd 3 rfl (by kernel_rfl)).at (P := RowP w6.heap.size (stepM x kv s k).regs) (by simp)); obtain ⟨A7, c7, hu7⟩ := Kd.R_slice h3; rw [hu7] at h3; dsimp only [Grow.fillM, List.foldl]; go_simp; refine Grow.UponB.valR ?_; exact GAt.mk (P := AggP (fun vs => .agg #[vs.getD 0 undef, .slice S2 s.s2.length g2, .int .i64 tg, .int .i64 sk, .int .i64 j, .int .i64 x.qs.length, .int .i64 (-1)]) w6.heap.size [(stepM x kv s k).regs]) (⟨[.slice A7 _ c7], rfl, rfl, fun k hk => by rcases (show k = 0 by simp at hk; omega) with rfl; exact h3⟩) (by intro p hp he; simp only [List.mem_cons, List.not_mem_nil, or_false] at hp; rcases hp with rfl | rfl | rfl <;> first | rfl | exact absurd he (by simp))) ?_
  refine Grow.lexD_norm (fun K hK => ?_); go_simp; refine hK _ ?_; clear hK K
  refine Grow.lexD_make (by rfl) (by rfl) (by intro u lo hi W hj hd; have hlow : w6.heap.size ≤ W.heap.size := hj.out.size; obtain ⟨kc1, kc2⟩ := lay hj.out HKC6.out; obtain ⟨ki1, ki2⟩ := lay hj.out HKI6.out; obtain ⟨ks1, ks2⟩ := lay hj.out HKS6.out; obtain ⟨kr1, kr2⟩ := lay hj.out HKR6.out; have cZS := pC (bC HB6.out hj.out) ZS.out; have cZG := pC (bC HB6.out hj.out) ZG.out; dsimp only [Grow.fillM, List.foldl]; go_simp; refine Grow.UponB.boxR ?_; exact GAt.mk (P := BoxG #[.slice none 0 0, .slice none 0 0, .int .i64 0, .int .i64 0, .int .i64 0, .int .i64 0, .int .i64 0] 73) (⟨rfl, al_new W _⟩) (by intro p hp he; simp only [List.mem_cons, List.not_mem_nil, or_false] at hp; rcases hp with rfl | rfl | rfl <;> first | rfl | exact absurd he (by simp))) ?_
  refine Grow.lexD_norm (fun K hK => ?_); go_simp; refine hK _ ?_; clear hK K
  refine Grow.lexD_nil (fun u lo hi w7 hj hG hord => ?_)
  obtain ⟨vs, hu20, hvl, hvs⟩ := (show AggP (fun vs => .agg #[vs.getD 0 undef, .slice S2 s.s2.length g2, .int .i64 tg, .int .i64 sk, .int .i64 j, .int .i64 x.qs.length, .int .i64 (-1)]) w6.heap.size [(stepM x kv s k).regs] (u 22) (lo 22) w7 from ((hG 22 rfl).1).at (by simp))
  obtain ⟨hu21, hzm⟩ := (show BoxG #[.slice none 0 0, .slice none 0 0, .int .i64 0, .int .i64 0, .int .i64 0, .int .i64 0, .int .i64 0] 73 (u 23) (lo 23) w7 from ((hG 23 rfl).1).at (by simp))
  have hlo := (hG 23 rfl).2.1
  have hR7 : kInt.R 2 w7 w6.heap.size (fun _ => True) (vs.getD 0 undef) (stepM x kv s k).regs := hvs 0 (by simp)
  clear hG hord hvs
  dsimp only [List.foldl]
  dsimp only at hu20
  rw [hu20, hu21]
  generalize vs.getD 0 undef = v7 at *
  generalize lo 23 = mb at *
  clear hu20 hu21 hvl vs lo hi
  obtain ⟨AR, cR, rfl, hcR, hCR⟩ := Kd.R_reads hR7
  have hmb : w.heap.size + 4 ≤ mb := by have h1 := HSZ6.out; have h2 := HZ0.out; omega
  have HMB := sA hmb; have HGM := sA (show w.heap.size ≤ mb by omega)
  have HNr := sA (show NotIn AR (stepM x kv s k).regs.length (fun k => k = mb ∨ k = w.heap.size + 1 + 1 + 1 ∨ F k) from fun a he hp hh => by have := row_ge hR7 a he hp; have h1 := HSZ6.out; have h2 := HZ0.out; rcases hh with hh | hh | hh; exact row_ne hR7 hzm (by decide) a he hp hh; omega; have := HFF.out _ hh; omega)
  have HNs := sA (show NotIn S2 s.s2.length (fun k => k = mb ∨ k = w.heap.size + 1 + 1 + 1 ∨ F k) from fun a he hp hh => by have := int_lt HS.out.2.2.1 he hp; rcases hh with hh | hh | hh; omega; omega; exact HNI.out a he hp hh)
  have HCr7 := sA hCR; have HCs7 := sA (Kd.C_below HS.out.2.2.1 (bC HB6.out hj.out)); have HKM7 := sA hzm; have HCP := sA hcR
  clear hmb hR7 hCR hzm hcR hlo
  refine wpl_norm (fun K hK => ?_); go_simp; refine hK _ ?_; clear hK K
  have hb := hj.out; clear hj
  have HB7 := sA (bC HB6.out hb); have HKC7 := sA (bB HKC6.out hb); have HKI7 := sA (bB HKI6.out hb); have HKS7 := sA (bB HKS6.out hb); have HKR7 := sA (bB HKR6.out hb); have HRN7 := sA (Kd.R_below HRN6.out hb); have HSZ7 := sA (Nat.le_trans HSZ6.out hb.size); clear hb
  obtain ⟨kc1, kc2⟩ := lay0 HKC7.out
  obtain ⟨ki1, ki2⟩ := lay0 HKI7.out
  obtain ⟨ks1, ks2⟩ := lay0 HKS7.out
  obtain ⟨kr1, kr2⟩ := lay0 HKR7.out
  obtain ⟨km1, km2⟩ := lay0 HKM7.out
  go_wp2_with ((with_reducible refine gate_store (t := 73) (p := 14) rfl ?_); refine wpList_putAll rfl rfl _ _ _ rfl (g := mb) [.slice AR (stepM x kv s k).regs.length cR, .slice S2 s.s2.length g2, .int .i64 tg, .int .i64 sk, .int .i64 j, .int .i64 x.qs.length, .int .i64 (-1)] rfl rfl (by kernel_rfl) (one_all rfl) HKM7.out rfl ?_; intro w8 hX hT hz; clear hz; clear kc1 kc2 ki1 ki2 ks1 ks2 kr1 kr2 km1 km2; have HCr8 := sA (c_tch HCr7.out HNr.out hT (by first | exact Or.inl rfl | exact Or.inr (Or.inl rfl) | exact rfl)); have HCs8 := sA (c_tch HCs7.out HNs.out hT (by first | exact Or.inl rfl | exact Or.inr (Or.inl rfl) | exact rfl)); (try simp only [List.setIfInBounds_toArray, List.set_cons_zero, List.set_cons_succ] at hX); have HB8 := sA (hT.below w (fun k hk => by rw [hk]; exact HGM.out) HB7.out); have HKC8 := sA (tK hT HKM7.out HKC7.out (by decide)); have HKI8 := sA (tK hT HKM7.out HKI7.out (by decide)); have HKS8 := sA (tK hT HKM7.out HKS7.out (by decide)); have HKR8 := sA (tK hT HKM7.out HKR7.out (by decide)); have HRN8 := sA (row_tch HRN7.out hT HKM7.out (by decide)); have HSZ8 := sA (Nat.le_trans HSZ7.out hT.size); have HKM8 := sA hX; clear hX hT; obtain ⟨kc1, kc2⟩ := lay0 HKC8.out; obtain ⟨ki1, ki2⟩ := lay0 HKI8.out; obtain ⟨ks1, ks2⟩ := lay0 HKS8.out; obtain ⟨kr1, kr2⟩ := lay0 HKR8.out; obtain ⟨km1, km2⟩ := lay0 HKM8.out)
  clear kc1 kc2 ki1 ki2 ks1 ks2 kr1 kr2 km1 km2
  have hcall := spec_exec A1 c1 c.b1 (envOf x kv j) (Code.facts hcv).2.2.2.2.2.1 (Code.facts hcv).2.1 (Code.facts hcv).2.2.1 (Code.facts hcv).2.2.2.1 c.b1.length 0 (stepM x kv s k) (by omega) (by have h := HR.out.step HN.out.1; rw [HN.out.2.1.1] at h; exact h) w8 AR cR S2 g2 (fun k => k = mb ∨ k = w.heap.size + 1 + 1 + 1 ∨ F k) (Kd.C_below HBK.out HB8.out) HCr8.out HCs8.out HNr.out HNs.out (fun k hk => by rcases hk with rfl | rfl | hk; exact blk_lt HKM8.out; exact blk_lt HKR8.out; exact Nat.lt_of_lt_of_le (HFF.out k hk) HB8.out.size) HCP.out
  have hST := show stepS c x kv s k = if 0 ≤ (runB (envOf x kv j) c.b1 (stepM x kv s k)).rule then failS (s.pos + 1) (runB (envOf x kv j) c.b1 (stepM x kv s k)).rule else goS x kv s k (runB (envOf x kv j) c.b1 (stepM x kv s k)) by
    unfold stepS
    rw [if_neg (by have := HR.out.rule; omega), HN.out.2.1.1, HN.out.2.1.2, HY.out, if_neg (by decide)]
  unfold runB at hST
  rw [HE.out] at hcall hST
  have hml := (exec_mok (E := envOf x kv j) (Code.facts hcv).2.2.2.2.2.1 c.b1.length 0 (stepM x kv s k) (by have h := HR.out.step HN.out.1; rw [HN.out.2.1.1] at h; exact h)).sl
  rw [HE.out] at hml
  generalize exec ⟨tg, sk, j, x.qs.length⟩ c.b1 c.b1.length 0 (stepM x kv s k) = mF at hcall hST hml
  have HML := sA (show mF.slots.length ≤ 2000000 by have h1 := slots_small hcv hxv; have h2 : (mF.slots.length : Int) = c.slots * (x.qs.length : Int) := hml; omega)
  clear hml
  have HST := sA hST
  simp only [memV] at hcall
  clear hST
  go_at_call 29
  refine hcall.mono ?_
  rintro e w9 ⟨⟨A4, c4, A5, c5, rfl, hC4, hC5, hN4, hN5, hcap⟩, hb⟩
  clear hcall
  have HB9 := sA (bC HB8.out hb); have HKC9 := sA (bB HKC8.out hb); have HKI9 := sA (bB HKI8.out hb); have HKS9 := sA (bB HKS8.out hb); have HKR9 := sA (bB HKR8.out hb); have HKM9 := sA (bB HKM8.out hb); have HRN9 := sA (Kd.R_below HRN8.out hb); have HSZ9 := sA (Nat.le_trans HSZ8.out hb.size); clear hb
  have HCr9 := sA hC4; have HCs9 := sA hC5; clear HNr HNs HCP; have HNr := sA hN4; have HNs := sA hN5; have HCP := sA hcap; clear hC4 hC5 hN4 hN5 hcap
  by_cases hr : 0 ≤ mF.rule
  · have p6 : decide (0 ≤ mF.rule) = true := decide_eq_true hr
    have HL := sA (show stepS c x kv s k = failS (s.pos + 1) mF.rule by rw [HST.out, if_pos hr]); clear hr
    obtain ⟨kc1, kc2⟩ := lay0 HKC9.out
    obtain ⟨ki1, ki2⟩ := lay0 HKI9.out
    obtain ⟨ks1, ks2⟩ := lay0 HKS9.out
    obtain ⟨kr1, kr2⟩ := lay0 HKR9.out
    obtain ⟨km1, km2⟩ := lay0 HKM9.out
    go_wp2_with ((with_reducible refine gate_store (t := 73) (p := 14) rfl ?_); refine wpList_putAll rfl rfl _ _ _ rfl (g := mb) [.slice A4 mF.regs.length c4, .slice A5 mF.slots.length c5, .int .i64 tg, .int .i64 sk, .int .i64 j, .int .i64 x.qs.length, .int .i64 mF.rule] rfl rfl (by kernel_rfl) (one_all rfl) HKM9.out rfl ?_; intro w10 hX hT hz; clear hz; clear kc1 kc2 ki1 ki2 ks1 ks2 kr1 kr2 km1 km2; have HCr10 := sA (c_tch HCr9.out HNr.out hT (by first | exact Or.inl rfl | exact Or.inr (Or.inl rfl) | exact rfl)); have HCs10 := sA (c_tch HCs9.out HNs.out hT (by first | exact Or.inl rfl | exact Or.inr (Or.inl rfl) | exact rfl)); (try simp only [List.setIfInBounds_toArray, List.set_cons_zero, List.set_cons_succ] at hX); have HB10 := sA (hT.below w (fun k hk => by rw [hk]; exact HGM.out) HB9.out); have HKC10 := sA (tK hT HKM9.out HKC9.out (by decide)); have HKI10 := sA (tK hT HKM9.out HKI9.out (by decide)); have HKS10 := sA (tK hT HKM9.out HKS9.out (by decide)); have HKR10 := sA (tK hT HKM9.out HKR9.out (by decide)); have HRN10 := sA (row_tch HRN9.out hT HKM9.out (by decide)); have HSZ10 := sA (Nat.le_trans HSZ9.out hT.size); have HKM10 := sA hX; clear hX hT; obtain ⟨kc1, kc2⟩ := lay0 HKC10.out; obtain ⟨ki1, ki2⟩ := lay0 HKI10.out; obtain ⟨ks1, ks2⟩ := lay0 HKS10.out; obtain ⟨kr1, kr2⟩ := lay0 HKR10.out; obtain ⟨km1, km2⟩ := lay0 HKM10.out)
    clear kc1 kc2 ki1 ki2 ks1 ks2 kr1 kr2 km1 km2
    go_at_call 113
    refine (spec_failed _ (s.pos + 1) mF.rule).mono ?_
    rintro e w11 ⟨rfl, hb⟩
    have HB11 := sA (bC HB10.out hb); have HKC11 := sA (bB HKC10.out hb); have HKI11 := sA (bB HKI10.out hb); have HKS11 := sA (bB HKS10.out hb); have HKR11 := sA (bB HKR10.out hb); have HKM11 := sA (bB HKM10.out hb); have HRN11 := sA (Kd.R_below HRN10.out hb); have HSZ11 := sA (Nat.le_trans HSZ10.out hb.size); have HCr11 := sA (Kd.C_below HCr10.out hb); have HCs11 := sA (Kd.C_below HCs10.out hb); clear hb
    obtain ⟨kc1, kc2⟩ := lay0 HKC11.out
    obtain ⟨ki1, ki2⟩ := lay0 HKI11.out
    obtain ⟨kr1, kr2⟩ := lay0 HKR11.out
    obtain ⟨km1, km2⟩ := lay0 HKM11.out
    go_wp2_with ((with_reducible refine gate_store (t := 49) (p := 10) rfl ?_); refine wpList_putAll rfl rfl _ _ _ rfl (g := w.heap.size + 1 + 1 + 1) [.int .i64 (s.pos + 1), .int .i64 mF.rule, .int .i64 0, .int .i64 0, .int .i64 0, .int .i64 0, .slice none 0 0, .slice none 0 0, .slice none 0 0] rfl rfl (by kernel_rfl) (one_all rfl) HKR11.out rfl ?_; intro w12 hX hT hz; clear hz; clear kc1 kc2 ki1 ki2 kr1 kr2 km1 km2; have HCr12 := sA (c_tch HCr11.out HNr.out hT (by first | exact Or.inl rfl | exact Or.inr (Or.inl rfl) | exact rfl)); have HCs12 := sA (c_tch HCs11.out HNs.out hT (by first | exact Or.inl rfl | exact Or.inr (Or.inl rfl) | exact rfl)); (try simp only [List.setIfInBounds_toArray, List.set_cons_zero, List.set_cons_succ] at hX); have HB12 := sA (hT.below w (fun k hk => by rw [hk]; exact HGKR.out) HB11.out); have HKC12 := sA (tK hT HKR11.out HKC11.out (by decide)); have HKI12 := sA (tK hT HKR11.out HKI11.out (by decide)); have HKM12 := sA (tK hT HKR11.out HKM11.out (by decide)); have HRN12 := sA (row_tch HRN11.out hT HKR11.out (by decide)); have HSZ12 := sA (Nat.le_trans HSZ11.out hT.size); have HKR12 := sA hX; clear hX hT; obtain ⟨kc1, kc2⟩ := lay0 HKC12.out; obtain ⟨ki1, ki2⟩ := lay0 HKI12.out; obtain ⟨kr1, kr2⟩ := lay0 HKR12.out; obtain ⟨km1, km2⟩ := lay0 HKM12.out)
    clear kc1 kc2 ki1 ki2 kr1 kr2 km1 km2
    refine bodyPost_ret (results_cell Tryz.results76 rfl HKR12.out Tryz.underlying49 rfl (by kernel_rfl)) rfl ?_
    exact ⟨_, rfl, HL.out ▸ readStN_failed _ (s.pos + 1) mF.rule F, HB12.out⟩
  · have p6 : decide (0 ≤ mF.rule) = false := decide_eq_false hr
    have HL := sA (show stepS c x kv s k = goS x kv s k mF by rw [HST.out, if_neg hr]); clear hr
    obtain ⟨kc1, kc2⟩ := lay0 HKC9.out
    obtain ⟨ki1, ki2⟩ := lay0 HKI9.out
    obtain ⟨ks1, ks2⟩ := lay0 HKS9.out
    obtain ⟨kr1, kr2⟩ := lay0 HKR9.out
    obtain ⟨km1, km2⟩ := lay0 HKM9.out
    go_wp2_with ((with_reducible refine gate_store (t := 73) (p := 14) rfl ?_); refine wpList_putAll rfl rfl _ _ _ rfl (g := mb) [.slice A4 mF.regs.length c4, .slice A5 mF.slots.length c5, .int .i64 tg, .int .i64 sk, .int .i64 j, .int .i64 x.qs.length, .int .i64 mF.rule] rfl rfl (by kernel_rfl) (one_all rfl) HKM9.out rfl ?_; intro w10 hX hT hz; clear hz; clear kc1 kc2 ki1 ki2 ks1 ks2 kr1 kr2 km1 km2; have HCr10 := sA (c_tch HCr9.out HNr.out hT (by first | exact Or.inl rfl | exact Or.inr (Or.inl rfl) | exact rfl)); have HCs10 := sA (c_tch HCs9.out HNs.out hT (by first | exact Or.inl rfl | exact Or.inr (Or.inl rfl) | exact rfl)); (try simp only [List.setIfInBounds_toArray, List.set_cons_zero, List.set_cons_succ] at hX); have HB10 := sA (hT.below w (fun k hk => by rw [hk]; exact HGM.out) HB9.out); have HKC10 := sA (tK hT HKM9.out HKC9.out (by decide)); have HKI10 := sA (tK hT HKM9.out HKI9.out (by decide)); have HKS10 := sA (tK hT HKM9.out HKS9.out (by decide)); have HKR10 := sA (tK hT HKM9.out HKR9.out (by decide)); have HRN10 := sA (row_tch HRN9.out hT HKM9.out (by decide)); have HSZ10 := sA (Nat.le_trans HSZ9.out hT.size); have HKM10 := sA hX; clear hX hT; obtain ⟨kc1, kc2⟩ := lay0 HKC10.out; obtain ⟨ki1, ki2⟩ := lay0 HKI10.out; obtain ⟨ks1, ks2⟩ := lay0 HKS10.out; obtain ⟨kr1, kr2⟩ := lay0 HKR10.out; obtain ⟨km1, km2⟩ := lay0 HKM10.out)
    clear kc1 kc2 ki1 ki2 ks1 ks2 kr1 kr2 km1 km2
    have hCN := (Kd.R_reads' HRN10.out).2.2
    obtain ⟨an, ea, za0⟩ := int_at hCN (k := 0) (by rw [nextA_len]; omega)
    obtain ⟨an', ea', za3⟩ := int_at hCN (k := 3) (by rw [nextA_len]; omega)
    obtain ⟨an'', ea'', za4⟩ := int_at hCN (k := 4) (by rw [nextA_len]; omega)
    cases ea; cases ea'; cases ea''; clear hCN
    replace za0 : w10.cell? ⟨gn, 0, none⟩ = some (.int .i64 (maxI (x.placeAt k).o (nextArr x s k))) := za0
    replace za3 : w10.cell? ⟨gn, 3, none⟩ = some (.int .i64 (satAdd s.dist (x.leg s.node k))) := za3
    replace za4 : w10.cell? ⟨gn, 4, none⟩ = some (.int .i64 (satAdd s.load ((bitI (x.pick k) - bitI (x.dropB k)) * x.sizeAt k))) := za4
    generalize hnt : maxI (x.placeAt k).o (nextArr x s k) = nt at *
    generalize hnd : satAdd s.dist (x.leg s.node k) = nd at *
    generalize hnl : satAdd s.load ((bitI (x.pick k) - bitI (x.dropB k)) * x.sizeAt k) = nl at *
    have HNX := sA (And.intro hnt (And.intro hnd hnl)); clear hnt hnd hnl
    have ZN0 := sA za0; have ZN3 := sA za3; have ZN4 := sA za4; clear za0 za3 za4
    have qw1 : IntKind.i64.wrap 1 = 1 := rfl; have qw2 : IntKind.i64.wrap 2 = 2 := rfl
    refine Grow.wp_region_deps 26 ⟨[(18, 132), (21, 135), (24, 138), (25, 139)], fun i v lo hi W => GAt [(18, RowP w10.heap.size (putI s.s0 j (1 + 1))), (21, LitP w10.heap.size), (24, RowP w10.heap.size mF.slots), (25, AggP (fun vs => .agg #[.int .i64 (s.pos + 1), .int .i64 (-1), .int .i64 k, .int .i64 nt, .int .i64 nd, .int .i64 nl, vs.getD 0 undef, .slice A4 mF.regs.length c4, vs.getD 1 undef]) w10.heap.size [putI s.s0 j (1 + 1), mF.slots])] i v lo W, fun i v lo hi W W' hb h => GAt.stays (l := [(18, RowP w10.heap.size (putI s.s0 j (1 + 1))), (21, LitP w10.heap.size), (24, RowP w10.heap.size mF.slots), (25, AggP (fun vs => .agg #[.int .i64 (s.pos + 1), .int .i64 (-1), .int .i64 k, .int .i64 nt, .int .i64 nd, .int .i64 nl, vs.getD 0 undef, .slice A4 mF.regs.length c4, vs.getD 1 undef]) w10.heap.size [putI s.s0 j (1 + 1), mF.slots])]) ⟨RowP.stays _ _, LitP.stays _, RowP.stays _ _, AggP.stays _ _ _, trivial⟩ i v lo hi W W' hb h⟩ (by kernel_rfl) (show List.Pairwise (fun p q : Nat × Tmp => p.1 ≠ q.1 ∧ p.2 ≠ q.2) [(18, 132), (21, 135), (24, 138), (25, 139)] from by decide) (by kernel_rfl) (by rfl) ?_
    dsimp only [List.take, List.drop]
    repeat (refine Grow.lexD_do _ (by rfl) (by rfl) (by intro W hj; obtain ⟨kc1, kc2⟩ := lay hj.out HKC10.out; obtain ⟨ki1, ki2⟩ := lay hj.out HKI10.out; obtain ⟨ks1, ks2⟩ := lay hj.out HKS10.out; obtain ⟨kr1, kr2⟩ := lay hj.out HKR10.out; obtain ⟨km1, km2⟩ := lay hj.out HKM10.out; have cZN0 := pC hj.out ZN0.out; have cZN3 := pC hj.out ZN3.out; have cZN4 := pC hj.out ZN4.out; go_simp; first | exact Grow.UponB.val) ?_; refine Grow.lexD_norm (fun K hK => ?_); go_simp; refine hK _ ?_; clear hK K)
    refine Grow.lexD_make (by rfl) (by rfl) (by intro u lo hi W hj hd; have hlow : w10.heap.size ≤ W.heap.size := hj.out.size; obtain ⟨kc1, kc2⟩ := lay hj.out HKC10.out; obtain ⟨ki1, ki2⟩ := lay hj.out HKI10.out; obtain ⟨ks1, ks2⟩ := lay hj.out HKS10.out; obtain ⟨kr1, kr2⟩ := lay hj.out HKR10.out; obtain ⟨km1, km2⟩ := lay hj.out HKM10.out; have cZN0 := pC hj.out ZN0.out; have cZN3 := pC hj.out ZN3.out; have cZN4 := pC hj.out ZN4.out; dsimp only [Grow.fillM, List.foldl]; go_simp; have cc := spec_set W (some az) g0 s.s0 (Kd.C_below HS.out.1 (bC HB10.out hj.out)) (by omega) j 2 (by omega) hjS; refine Grow.UponB.made ?_; (with_reducible refine Calls.mono cc ?_); rintro e w' ⟨v, rfl, hr, hb⟩; exact ⟨_, rfl, GAt.mk (P := RowP w10.heap.size (putI s.s0 j (1 + 1))) (Kd.R_lower hr hlow) (by intro p hp he; simp only [List.mem_cons, List.not_mem_nil, or_false] at hp; rcases hp with rfl | rfl | rfl | rfl <;> first | rfl | exact absurd he (by simp)), hb⟩) ?_
    refine Grow.lexD_norm (fun K hK => ?_); go_simp; refine hK _ ?_; clear hK K
    repeat (refine Grow.lexD_do _ (by rfl) (by rfl) (by intro W hj; obtain ⟨kc1, kc2⟩ := lay hj.out HKC10.out; obtain ⟨ki1, ki2⟩ := lay hj.out HKI10.out; obtain ⟨ks1, ks2⟩ := lay hj.out HKS10.out; obtain ⟨kr1, kr2⟩ := lay hj.out HKR10.out; obtain ⟨km1, km2⟩ := lay hj.out HKM10.out; have cZN0 := pC hj.out ZN0.out; have cZN3 := pC hj.out ZN3.out; have cZN4 := pC hj.out ZN4.out; go_simp; first | exact Grow.UponB.val) ?_; refine Grow.lexD_norm (fun K hK => ?_); go_simp; refine hK _ ?_; clear hK K)
    refine Grow.lexD_make (by rfl) (by rfl) (by intro u lo hi W hj hd; have hlow : w10.heap.size ≤ W.heap.size := hj.out.size; obtain ⟨kc1, kc2⟩ := lay hj.out HKC10.out; obtain ⟨ki1, ki2⟩ := lay hj.out HKI10.out; obtain ⟨ks1, ks2⟩ := lay hj.out HKS10.out; obtain ⟨kr1, kr2⟩ := lay hj.out HKR10.out; obtain ⟨km1, km2⟩ := lay hj.out HKM10.out; have cZN0 := pC hj.out ZN0.out; have cZN3 := pC hj.out ZN3.out; have cZN4 := pC hj.out ZN4.out; dsimp only [Grow.fillM, List.foldl]; go_simp; refine Grow.UponB.boxR ?_; exact GAt.mk (P := LitP w10.heap.size) (⟨_, rfl, lit_empty W w10.heap.size hlow⟩) (by intro p hp he; simp only [List.mem_cons, List.not_mem_nil, or_false] at hp; rcases hp with rfl | rfl | rfl | rfl <;> first | rfl | exact absurd he (by simp))) ?_
    refine Grow.lexD_norm (fun K hK => ?_); go_simp; refine hK _ ?_; clear hK K
    repeat (refine Grow.lexD_do _ (by rfl) (by rfl) (by intro W hj; obtain ⟨kc1, kc2⟩ := lay hj.out HKC10.out; obtain ⟨ki1, ki2⟩ := lay hj.out HKI10.out; obtain ⟨ks1, ks2⟩ := lay hj.out HKS10.out; obtain ⟨kr1, kr2⟩ := lay hj.out HKR10.out; obtain ⟨km1, km2⟩ := lay hj.out HKM10.out; have cZN0 := pC hj.out ZN0.out; have cZN3 := pC hj.out ZN3.out; have cZN4 := pC hj.out ZN4.out; go_simp; first | exact Grow.UponB.val) ?_; refine Grow.lexD_norm (fun K hK => ?_); go_simp; refine hK _ ?_; clear hK K)
    refine Grow.lexD_make (by rfl) (by rfl) (by intro u lo hi W hj hd; have hlow : w10.heap.size ≤ W.heap.size := hj.out.size; obtain ⟨kc1, kc2⟩ := lay hj.out HKC10.out; obtain ⟨ki1, ki2⟩ := lay hj.out HKI10.out; obtain ⟨ks1, ks2⟩ := lay hj.out HKS10.out; obtain ⟨kr1, kr2⟩ := lay hj.out HKR10.out; obtain ⟨km1, km2⟩ := lay hj.out HKM10.out; have cZN0 := pC hj.out ZN0.out; have cZN3 := pC hj.out ZN3.out; have cZN4 := pC hj.out ZN4.out; obtain ⟨b21, hu21, h21⟩ := ((hd 21 rfl (by kernel_rfl)).at (P := LitP w10.heap.size) (by simp)); rw [hu21] at h21; obtain ⟨v1, w1x, hrun, hR1, hB1⟩ := app_empty W w10.heap.size hlow 30 b21 A5 c5 mF.slots h21 (Kd.C_below HCs10.out hj.out) HML.out; refine upon_append (s := .tmp 135) (x := .tmp 137) rfl ?_ ?_ hrun (GAt.mk (P := RowP w10.heap.size mF.slots) (hR1) (by intro p hp he; simp only [List.mem_cons, List.not_mem_nil, or_false] at hp; rcases hp with rfl | rfl | rfl | rfl <;> first | rfl | exact absurd he (by simp))) hB1; (dsimp only [Grow.fillM, List.foldl]; go_simp <;> exact hu21); (dsimp only [Grow.fillM, List.foldl]; go_simp)) ?_
    refine Grow.lexD_norm (fun K hK => ?_); go_simp; refine hK _ ?_; clear hK K
    refine Grow.lexD_make (by rfl) (by rfl) (by intro u lo hi W hj hd; have hlow : w10.heap.size ≤ W.heap.size := hj.out.size; obtain ⟨kc1, kc2⟩ := lay hj.out HKC10.out; obtain ⟨ki1, ki2⟩ := lay hj.out HKI10.out; obtain ⟨ks1, ks2⟩ := lay hj.out HKS10.out; obtain ⟨kr1, kr2⟩ := lay hj.out HKR10.out; obtain ⟨km1, km2⟩ := lay hj.out HKM10.out; have cZN0 := pC hj.out ZN0.out; have cZN3 := pC hj.out ZN3.out; have cZN4 := pC hj.out ZN4.out; have h18 : kInt.R 2 W w10.heap.size (fun _ => True) (u 18) (putI s.s0 j (1 + 1)) := ((hd 18 rfl (by kernel_rfl)).at (P := RowP w10.heap.size (putI s.s0 j (1 + 1))) (by simp)); obtain ⟨A18, c18, hu18⟩ := Kd.R_slice h18; rw [hu18] at h18; have h24 : kInt.R 2 W w10.heap.size (fun _ => True) (u 24) mF.slots := ((hd 24 rfl (by kernel_rfl)).at (P := RowP w10.heap.size mF.slots) (by simp)); obtain ⟨A24, c24, hu24⟩ := Kd.R_slice h24; rw [hu24] at h24; dsimp only [Grow.fillM, List.foldl]; go_simp; refine Grow.UponB.valR ?_; exact GAt.mk (P := AggP (fun vs => .agg #[.int .i64 (s.pos + 1), .int .i64 (-1), .int .i64 k, .int .i64 nt, .int .i64 nd, .int .i64 nl, vs.getD 0 undef, .slice A4 mF.regs.length c4, vs.getD 1 undef]) w10.heap.size [putI s.s0 j (1 + 1), mF.slots]) (⟨[.slice A18 _ c18, .slice A24 _ c24], rfl, rfl, fun k hk => by rcases (show k = 0 ∨ k = 1 by simp at hk; omega) with rfl | rfl; exact h18; exact h24⟩) (by intro p hp he; simp only [List.mem_cons, List.not_mem_nil, or_false] at hp; rcases hp with rfl | rfl | rfl | rfl <;> first | rfl | exact absurd he (by simp))) ?_
    refine Grow.lexD_norm (fun K hK => ?_); go_simp; refine hK _ ?_; clear hK K
    refine Grow.lexD_nil (fun u lo hi w11 hj hG hord => ?_)
    obtain ⟨vs, hu14, hvl, hvs⟩ := (show AggP (fun vs => .agg #[.int .i64 (s.pos + 1), .int .i64 (-1), .int .i64 k, .int .i64 nt, .int .i64 nd, .int .i64 nl, vs.getD 0 undef, .slice A4 mF.regs.length c4, vs.getD 1 undef]) w10.heap.size [putI s.s0 j (1 + 1), mF.slots] (u 25) (lo 25) w11 from ((hG 25 rfl).1).at (by simp))
    have hR9 : kInt.R 2 w11 w10.heap.size (fun _ => True) (vs.getD 0 undef) (putI s.s0 j (1 + 1)) := hvs 0 (by simp)
    have hR10 : kInt.R 2 w11 w10.heap.size (fun _ => True) (vs.getD 1 undef) mF.slots := hvs 1 (by simp)
    clear hG hord hvs
    dsimp only [List.foldl]
    dsimp only at hu14
    rw [hu14]
    generalize vs.getD 0 undef = v9 at *
    generalize vs.getD 1 undef = v10 at *
    clear hu14 hvl vs lo hi
    obtain ⟨A9, c9, rfl⟩ := Kd.R_slice hR9
    obtain ⟨A10, c10, rfl⟩ := Kd.R_slice hR10
    have hle : w.heap.size ≤ w10.heap.size := by have h1 := HSZ10.out; have h2 := HZ0.out; omega
    have HRz11 := sA (Kd.R_lower hR9 hle); have HRy11 := sA (Kd.R_lower hR10 hle); clear hR9 hR10 hle
    refine wpl_norm (fun K hK => ?_); go_simp; refine hK _ ?_; clear hK K
    have hb := hj.out; clear hj
    have HB11 := sA (bC HB10.out hb); have HKC11 := sA (bB HKC10.out hb); have HKI11 := sA (bB HKI10.out hb); have HKS11 := sA (bB HKS10.out hb); have HKR11 := sA (bB HKR10.out hb); have HKM11 := sA (bB HKM10.out hb); have HRN11 := sA (Kd.R_below HRN10.out hb); have HSZ11 := sA (Nat.le_trans HSZ10.out hb.size); have HCr11 := sA (Kd.C_below HCr10.out hb); have HCs11 := sA (Kd.C_below HCs10.out hb); clear hb
    obtain ⟨kc1, kc2⟩ := lay0 HKC11.out
    obtain ⟨ki1, ki2⟩ := lay0 HKI11.out
    obtain ⟨kr1, kr2⟩ := lay0 HKR11.out
    obtain ⟨km1, km2⟩ := lay0 HKM11.out
    go_wp2_with ((with_reducible refine gate_store (t := 49) (p := 10) rfl ?_); refine wpList_putAll rfl rfl _ _ _ rfl (g := w.heap.size + 1 + 1 + 1) [.int .i64 (s.pos + 1), .int .i64 (-1), .int .i64 k, .int .i64 nt, .int .i64 nd, .int .i64 nl, .slice A9 (putI s.s0 j (1 + 1)).length c9, .slice A4 mF.regs.length c4, .slice A10 mF.slots.length c10] rfl rfl (by kernel_rfl) (one_all rfl) HKR11.out rfl ?_; intro w12 hX hT hz; clear hz; clear kc1 kc2 ki1 ki2 kr1 kr2 km1 km2; have HCr12 := sA (c_tch HCr11.out HNr.out hT (by first | exact Or.inl rfl | exact Or.inr (Or.inl rfl) | exact rfl)); have HCs12 := sA (c_tch HCs11.out HNs.out hT (by first | exact Or.inl rfl | exact Or.inr (Or.inl rfl) | exact rfl)); (try simp only [List.setIfInBounds_toArray, List.set_cons_zero, List.set_cons_succ] at hX); have HB12 := sA (hT.below w (fun k hk => by rw [hk]; exact HGKR.out) HB11.out); have HKC12 := sA (tK hT HKR11.out HKC11.out (by decide)); have HKI12 := sA (tK hT HKR11.out HKI11.out (by decide)); have HKM12 := sA (tK hT HKR11.out HKM11.out (by decide)); have HRz12 := sA (row_tch HRz11.out hT HKR11.out (by decide)); have HRy12 := sA (row_tch HRy11.out hT HKR11.out (by decide)); have HSZ12 := sA (Nat.le_trans HSZ11.out hT.size); have HKR12 := sA hX; clear hX hT; obtain ⟨kc1, kc2⟩ := lay0 HKC12.out; obtain ⟨ki1, ki2⟩ := lay0 HKI12.out; obtain ⟨kr1, kr2⟩ := lay0 HKR12.out; obtain ⟨km1, km2⟩ := lay0 HKM12.out)
    clear kc1 kc2 ki1 ki2 kr1 kr2 km1 km2
    refine bodyPost_ret (results_cell Tryz.results76 rfl HKR12.out Tryz.underlying49 rfl (by kernel_rfl)) rfl ?_
    refine ⟨_, rfl, ?_, HB12.out⟩
    rw [HL.out]
    unfold goS
    rw [HNX.out.1, HNX.out.2.1, HNX.out.2.2, HN.out.2.1.1, HY.out]
    exact ⟨A9, c9, A4, c4, A10, c10, rfl, (Kd.R_reads' HRz12.out).2.2, HCr12.out, (Kd.R_reads' HRy12.out).2.2, HCP.out, NotIn.of_R HRz12.out HFF.out, fun a he hp hh => HNr.out a he hp (Or.inr (Or.inr hh)), NotIn.of_R HRy12.out HFF.out⟩
set_option maxRecDepth 100000 in
set_option maxHeartbeats 8000000 in
theorem spec_StepState_bad1 (u v1 t : Value) (c : Code) (hc : ReadCode w u c) (x : Inst) (hx : ReadInst w v1 x) (kv : Nat) (s : St) (F : Nat → Prop) (hs : ReadStN w t s F) (hF : ∀ b, F b → b < w.heap.size) (hsm : s.small) (hok : stateOk c x kv s = true) (hR : Run c x kv s) (hp : s.pos < 4096) (k j : Nat) (hj : j < x.qs.length) (hk : k = x.vs.length + (2 * j + 1)) (hy : atI s.s0 j ≠ 1) :
    Calls Tryz.prog 76 #[u, v1, .int .i64 kv, t, .int .i64 k] w fun e w' => ∃ t', e = .returned t' ∧ ReadStN w' t' (stepS c x kv s k) F ∧ Below w.heap.size w w' := by
  have HX := sA (And.intro hc (And.intro hx hs.readC.read))
  have hpos : (s.pos == -1) = false := beq_eq_false_iff_ne.2 (by have := hR.p0; omega)
  have hpos2 : decide (s.pos = -1) = false := decide_eq_false (by have := hR.p0; omega)
  have hru : decide (0 ≤ s.rule) = false := decide_eq_false (by have := hR.rule; omega)
  have hps : (s.pos == 4096) = false := beq_eq_false_iff_ne.2 (by omega)
  have hps2 : decide (s.pos = 4096) = false := decide_eq_false (by omega)
  have qp : IntKind.i64.wrap (s.pos + 1) = s.pos + 1 := IntWalk.i64_in _ (by have := hR.p0; omega)
  have hvs : ∀ (W : World) (u v1 t : Value), ReadCode W u c → ReadInst W v1 x → ReadState W t s → Calls Tryz.prog 26 #[u, v1, .int .i64 kv, t] W fun e w' => e = .returned (.bool true) ∧ Below W.heap.size W w' := fun W u v1 t h1 h2 h3 => hok ▸ spec_ValidState W u v1 t c h1 x h2 kv s h3 hsm
  have hnode : (k : Int) < x.nodes := by unfold Inst.nodes; omega
  have hst : x.stop (k : Int) = true := by unfold Inst.stop Inst.nodes; exact (inB_iff _ _ _).2 ⟨by omega, by omega⟩
  have hkv := hR.hv; have hxv := hR.val; have hcv := hR.cv
  obtain ⟨f0, f1, f2, hnear⟩ := Inst.few_near hxv
  have hsm' : x.small := ⟨by omega, by omega, by omega⟩
  have hrq : x.reqI k = (j : Int) ∧ ((k : Int) - x.vs.length).tmod 2 = 1 := by
    have e : ((k : Int) - x.vs.length) = ((2 * j + 1 : Nat) : Int) := by omega
    unfold Inst.reqI
    rw [e]
    refine ⟨?_, ?_⟩
    · show ((2 * j + 1 : Nat) : Int).tdiv ((2 : Nat) : Int) = _; rw [← Int.ofNat_tdiv]; omega
    · show ((2 * j + 1 : Nat) : Int).tmod ((2 : Nat) : Int) = _; rw [← Int.ofNat_tmod]; omega
  have hpk : x.pick k = false ∧ x.dropB k = true := by
    unfold Inst.pick Inst.dropB
    rw [hst, hrq.2]
    exact ⟨rfl, rfl⟩
  have hstp : ∀ (W : World) (u : Value), ReadInst W u x → Calls Tryz.prog 49 #[u, .int .i64 k] W fun e w' => e = .returned (.bool true) ∧ Below W.heap.size W w' := fun W u h => (show inB (k : Int) x.vs.length (x.nodes - 1) = true from hst) ▸ spec_stop W u x h hsm' k
  have hreq : ∀ (W : World) (u : Value), ReadInst W u x → Calls Tryz.prog 93 #[u, .int .i64 k] W fun e w' => e = .returned (.int .i64 j) ∧ Below W.heap.size W w' := fun W u h => hrq.1 ▸ spec_req W u x h hsm' k (by omega)
  have hpck : ∀ (W : World) (u : Value), ReadInst W u x → Calls Tryz.prog 56 #[u, .int .i64 k] W fun e w' => e = .returned (.bool false) ∧ Below W.heap.size W w' := fun W u h => hpk.1 ▸ spec_pick W u x h hsm' k
  have hdrp : ∀ (W : World) (u : Value), ReadInst W u x → Calls Tryz.prog 57 #[u, .int .i64 k] W fun e w' => e = .returned (.bool true) ∧ Below W.heap.size W w' := fun W u h => hpk.2 ▸ spec_drop W u x h hsm' k
  have HCC := sA (And.intro hvs (And.intro hstp (And.intro hreq (And.intro hpck hdrp)))); clear hvs hstp hreq hpck hdrp
  have HN := sA (And.intro hst (And.intro hrq hnode))
  have hz0 := hR.z0
  have HR := sA hR
  have hjI : (j : Int) < (x.qs.length : Int) := by omega
  have hjS : (j : Int) < (s.s0.length : Int) := by omega
  have hkvI : (kv : Int) < (x.vs.length : Int) := by omega
  have hl0 : s.s0.length ≤ 1000 := by omega
  obtain ⟨A0, c0, A1, c1, A2, c2, rfl, a0, a1, a2⟩ := hc
  obtain ⟨B0, d0, B1, d1, B2, d2, rfl, b0, b1, b2⟩ := hx
  obtain ⟨S0, g0, S1, g1, S2, g2, rfl, s0, s1, s2, hcap, n0, n1, n2⟩ := hs
  have HNI := sA n2; have HFF := sA hF; clear n0 n1 n2 hF
  obtain ⟨ad, e0, t0, t1⟩ := Kd.flat_cells (d := kVeh) rfl b0 zV kv hkv
  cases e0
  have ZS := sA (t1 0 _ rfl); clear t0 t1
  generalize hsk : (x.vs.getD kv zV).skills = sk at ZS
  obtain ⟨aq, e0, t0, t1⟩ := Kd.flat_cells (d := kReq) rfl b1 zQ j hj
  cases e0
  have ZG := sA (t1 0 _ rfl); clear t0 t1
  generalize htg : (x.qs.getD j zQ).tags = tg at ZG
  obtain ⟨az, e0, z0⟩ := int_at s0 (k := j) (by omega)
  cases e0
  have hE : envOf x kv j = ⟨tg, sk, j, x.qs.length⟩ := by unfold envOf; rw [if_neg (by omega), hsk, Int.toNat_natCast, htg]
  have HE := sA hE
  have HS := sA (And.intro s0 (And.intro s1 (And.intro s2 hcap))); have HBK := sA a1
  clear a0 a1 a2 b0 b1 b2 s0 s1 s2 hcap hok hnear hst hrq hnode hpk hR hsk htg hE hz0 hk hsm
  have HL := sA (show stepS c x kv s k = failS (s.pos + 1) 0 by unfold stepS; rw [if_neg (by have := HR.out.rule; omega), HN.out.2.1.1, HN.out.2.1.2, if_pos hy])
  generalize atI s.s0 j = y at hy z0
  have ZT := sA z0; clear z0
  have y1 : (y == 1) = false := beq_eq_false_iff_ne.2 hy
  have y2 : decide (y = 1) = false := decide_eq_false hy
  have y3 : (y != 1) = true := bne_iff_ne.2 hy
  have y4 : (!decide (y = 1)) = true := by rw [y2]; rfl
  clear hy
  obtain ⟨HB0, HKC0, HKI0, HKS0, HKR0, HZ0⟩ := opens4 w (.cells #[.int .i64 c.regs, .int .i64 c.slots, .slice A0 c.b0.length c0, .slice A1 c.b1.length c1, .slice A2 c.b2.length c2] 41) (.cells #[.slice (some ad) x.vs.length d0, .slice (some aq) x.qs.length d1, .slice B2 x.rs.length d2] 47) (.cells #[.int .i64 s.pos, .int .i64 s.rule, .int .i64 s.node, .int .i64 s.time, .int .i64 s.dist, .int .i64 s.load, .slice (some az) s.s0.length g0, .slice S1 s.s1.length g1, .slice S2 s.s2.length g2] 49) (.cells #[.int .i64 0, .int .i64 0, .int .i64 0, .int .i64 0, .int .i64 0, .int .i64 0, .slice none 0 0, .slice none 0 0, .slice none 0 0] 49)
  have HGKC := sA (show w.heap.size ≤ w.heap.size from Nat.le_add_right _ 0)
  have HGKI := sA (show w.heap.size ≤ w.heap.size + 1 from Nat.le_add_right _ 1)
  have HGKS := sA (show w.heap.size ≤ w.heap.size + 1 + 1 from Nat.le_add_right _ 2)
  have HGKR := sA (show w.heap.size ≤ w.heap.size + 1 + 1 + 1 from Nat.le_add_right _ 3)
  have HSZ0 := sA (Nat.le_refl ((((w.alloc (.cells #[.int .i64 c.regs, .int .i64 c.slots, .slice A0 c.b0.length c0, .slice A1 c.b1.length c1, .slice A2 c.b2.length c2] 41)).alloc (.cells #[.slice (some ad) x.vs.length d0, .slice (some aq) x.qs.length d1, .slice B2 x.rs.length d2] 47)).alloc (.cells #[.int .i64 s.pos, .int .i64 s.rule, .int .i64 s.node, .int .i64 s.time, .int .i64 s.dist, .int .i64 s.load, .slice (some az) s.s0.length g0, .slice S1 s.s1.length g1, .slice S2 s.s2.length g2] 49)).alloc (.cells #[.int .i64 0, .int .i64 0, .int .i64 0, .int .i64 0, .int .i64 0, .int .i64 0, .slice none 0 0, .slice none 0 0, .slice none 0 0] 49)).heap.size)
  go_enter Tryz.func76, Tryz.ntmps76
  go_wp2_with fail
  go_at_call 26
  refine (HCC.out.1 _ _ _ _ (HX.out.1.below HB0.out) (HX.out.2.1.below HB0.out) (HX.out.2.2.below HB0.out)).mono ?_
  rintro e w1 ⟨rfl, hb⟩
  have HB1 := sA (bC HB0.out hb); have HKC1 := sA (bB HKC0.out hb); have HKI1 := sA (bB HKI0.out hb); have HKS1 := sA (bB HKS0.out hb); have HKR1 := sA (bB HKR0.out hb); have HSZ1 := sA (Nat.le_trans HSZ0.out hb.size); clear hb
  obtain ⟨kc1, kc2⟩ := lay0 HKC1.out
  obtain ⟨ki1, ki2⟩ := lay0 HKI1.out
  obtain ⟨ks1, ks2⟩ := lay0 HKS1.out
  obtain ⟨kr1, kr2⟩ := lay0 HKR1.out
  go_wp2_with fail
  clear kc1 kc2 ki1 ki2 ks1 ks2 kr1 kr2
  go_at_call 49
  refine (HCC.out.2.1 _ _ (HX.out.2.1.below HB1.out)).mono ?_
  rintro e w2 ⟨rfl, hb⟩
  have HB2 := sA (bC HB1.out hb); have HKC2 := sA (bB HKC1.out hb); have HKI2 := sA (bB HKI1.out hb); have HKS2 := sA (bB HKS1.out hb); have HKR2 := sA (bB HKR1.out hb); have HSZ2 := sA (Nat.le_trans HSZ1.out hb.size); clear hb
  obtain ⟨kc1, kc2⟩ := lay0 HKC2.out
  obtain ⟨ki1, ki2⟩ := lay0 HKI2.out
  obtain ⟨ks1, ks2⟩ := lay0 HKS2.out
  obtain ⟨kr1, kr2⟩ := lay0 HKR2.out
  go_wp2_with fail
  clear kc1 kc2 ki1 ki2 ks1 ks2 kr1 kr2
  go_at_call 93
  refine (HCC.out.2.2.1 _ _ (HX.out.2.1.below HB2.out)).mono ?_
  rintro e w3 ⟨rfl, hb⟩
  have HB3 := sA (bC HB2.out hb); have HKC3 := sA (bB HKC2.out hb); have HKI3 := sA (bB HKI2.out hb); have HKS3 := sA (bB HKS2.out hb); have HKR3 := sA (bB HKR2.out hb); have HSZ3 := sA (Nat.le_trans HSZ2.out hb.size); clear hb
  obtain ⟨kc1, kc2⟩ := lay0 HKC3.out
  obtain ⟨ki1, ki2⟩ := lay0 HKI3.out
  obtain ⟨ks1, ks2⟩ := lay0 HKS3.out
  obtain ⟨kr1, kr2⟩ := lay0 HKR3.out
  have cZT := pC HB3.out ZT.out
  go_wp2_with fail
  clear kc1 kc2 ki1 ki2 ks1 ks2 kr1 kr2 cZT
  go_at_call 56
  refine (HCC.out.2.2.2.1 _ _ (HX.out.2.1.below HB3.out)).mono ?_
  rintro e w4 ⟨rfl, hb⟩
  have HB4 := sA (bC HB3.out hb); have HKC4 := sA (bB HKC3.out hb); have HKI4 := sA (bB HKI3.out hb); have HKS4 := sA (bB HKS3.out hb); have HKR4 := sA (bB HKR3.out hb); have HSZ4 := sA (Nat.le_trans HSZ3.out hb.size); clear hb
  obtain ⟨kc1, kc2⟩ := lay0 HKC4.out
  obtain ⟨ki1, ki2⟩ := lay0 HKI4.out
  obtain ⟨ks1, ks2⟩ := lay0 HKS4.out
  obtain ⟨kr1, kr2⟩ := lay0 HKR4.out
  have cZT := pC HB4.out ZT.out
  go_wp2_with fail
  clear kc1 kc2 ki1 ki2 ks1 ks2 kr1 kr2 cZT
  go_at_call 57
  refine (HCC.out.2.2.2.2 _ _ (HX.out.2.1.below HB4.out)).mono ?_
  rintro e w5 ⟨rfl, hb⟩
  have HB5 := sA (bC HB4.out hb); have HKC5 := sA (bB HKC4.out hb); have HKI5 := sA (bB HKI4.out hb); have HKS5 := sA (bB HKS4.out hb); have HKR5 := sA (bB HKR4.out hb); have HSZ5 := sA (Nat.le_trans HSZ4.out hb.size); clear hb
  obtain ⟨kc1, kc2⟩ := lay0 HKC5.out
  obtain ⟨ki1, ki2⟩ := lay0 HKI5.out
  obtain ⟨ks1, ks2⟩ := lay0 HKS5.out
  obtain ⟨kr1, kr2⟩ := lay0 HKR5.out
  go_wp2_with fail
  clear kc1 kc2 ki1 ki2 ks1 ks2 kr1 kr2
  go_at_call 113
  refine (spec_failed _ (s.pos + 1) 0).mono ?_
  rintro e w6 ⟨rfl, hb⟩
  have HB6 := sA (bC HB5.out hb); have HKC6 := sA (bB HKC5.out hb); have HKI6 := sA (bB HKI5.out hb); have HKS6 := sA (bB HKS5.out hb); have HKR6 := sA (bB HKR5.out hb); have HSZ6 := sA (Nat.le_trans HSZ5.out hb.size); clear hb
  obtain ⟨kc1, kc2⟩ := lay0 HKC6.out
  obtain ⟨ki1, ki2⟩ := lay0 HKI6.out
  obtain ⟨kr1, kr2⟩ := lay0 HKR6.out
  go_wp2_with ((with_reducible refine gate_store (t := 49) (p := 10) rfl ?_); refine wpList_putAll rfl rfl _ _ _ rfl (g := w.heap.size + 1 + 1 + 1) [.int .i64 (s.pos + 1), .int .i64 0, .int .i64 0, .int .i64 0, .int .i64 0, .int .i64 0, .slice none 0 0, .slice none 0 0, .slice none 0 0] rfl rfl (by kernel_rfl) (one_all rfl) HKR6.out rfl ?_; intro w7 hX hT hz; clear hz; clear kc1 kc2 ki1 ki2 kr1 kr2; (try simp only [List.setIfInBounds_toArray, List.set_cons_zero, List.set_cons_succ] at hX); have HB7 := sA (hT.below w (fun k hk => by rw [hk]; exact HGKR.out) HB6.out); have HKC7 := sA (tK hT HKR6.out HKC6.out (by decide)); have HKI7 := sA (tK hT HKR6.out HKI6.out (by decide)); have HSZ7 := sA (Nat.le_trans HSZ6.out hT.size); have HKR7 := sA hX; clear hX hT; obtain ⟨kc1, kc2⟩ := lay0 HKC7.out; obtain ⟨ki1, ki2⟩ := lay0 HKI7.out; obtain ⟨kr1, kr2⟩ := lay0 HKR7.out)
  clear kc1 kc2 ki1 ki2 kr1 kr2
  refine bodyPost_ret (results_cell Tryz.results76 rfl HKR7.out Tryz.underlying49 rfl (by kernel_rfl)) rfl ?_
  exact ⟨_, rfl, HL.out ▸ readStN_failed _ (s.pos + 1) 0 F, HB7.out⟩
theorem spec_StepState (u v1 t : Value) (c : Code) (hc : ReadCode w u c) (x : Inst) (hx : ReadInst w v1 x) (kv : Nat) (s : St) (i : Nat) (F : Nat → Prop) (hs : ReadStN w t s F) (hF : ∀ b, F b → b < w.heap.size) (hsm : s.small) (hok : stateOk c x kv s = true) (hR : Fine c x kv s i) (hp : i < 4096) (n : Int) (hn : x.stop n = true) :
    Calls Tryz.prog 76 #[u, v1, .int .i64 kv, t, .int .i64 n] w fun e w' => ∃ t', e = .returned t' ∧ ReadStN w' t' (stepS c x kv s n) F ∧ Below w.heap.size w w' := by
  rcases hR with ⟨p, r, rfl, h1, h2, h3, h4⟩ | ⟨hR, hpos, _⟩
  · have e : stepS c x kv (failS p r) n = failS p r := by unfold stepS; rw [if_pos (show 0 ≤ (failS p r).rule from h1)]
    rw [e]
    exact spec_StepState_failed w u v1 t c hc x hx kv (failS p r) F hs hF hsm hok rfl (by show p ≠ -1; omega) h1 n
  · obtain ⟨q, d, hq, hd, e, _, _⟩ := Inst.stop_bd hn
    have hp' : s.pos < 4096 := by omega
    obtain ⟨k, rfl⟩ : ∃ k : Nat, n = k := ⟨x.vs.length + (2 * q + d), by omega⟩
    rcases (show d = 0 ∨ d = 1 by omega) with rfl | rfl
    · by_cases hy : atI s.s0 q = 0
      · exact spec_StepState_go0 w u v1 t c hc x hx kv s F hs hF hsm hok hR hp' k q hq (by omega) hy
      · exact spec_StepState_bad0 w u v1 t c hc x hx kv s F hs hF hsm hok hR hp' k q hq (by omega) hy
    · by_cases hy : atI s.s0 q = 1
      · exact spec_StepState_go1 w u v1 t c hc x hx kv s F hs hF hsm hok hR hp' k q hq (by omega) hy
      · exact spec_StepState_bad1 w u v1 t c hc x hx kv s F hs hF hsm hok hR hp' k q hq (by omega) hy
end
end Go.Proofs.YtlhpbpkefkabgaaGreat.L1
