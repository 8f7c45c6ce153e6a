/- The state behind a route, and RunRoute, of the reference. -/
import Derived.Test.YtlhpbpkefkabgaaGreatQS28
namespace Go.Proofs.YtlhpbpkefkabgaaGreat.L1
open Go.RowKit Go.Proofs.YtlhpbpkefkabgaaGreatW.PrintWords Go.Proofs.YtlhpbpkefkabgaaGreat.B
set_option linter.unusedVariables false
set_option linter.unusedSimpArgs false
attribute [local go_sem] mk_cell mk_frozen
def StP (s : St) (F : Nat → Prop) (v : Value) (lo : Nat) (W : World) : Prop := ReadStN W v s F
theorem StP.stays (s : St) (F : Nat → Prop) : Stays (StP s F) := fun v lo W W' hb h => ReadStN.below h hb
/-- What is told of the state behind the first k stops. -/
def AftP (c : Code) (x : Inst) (kv : Nat) (xs : List Int) (R : Option Addr) (rc k : Nat) : Prop := ∀ (w : World) (u v1 : Value) (F : Nat → Prop), ReadCode w u c → ReadInst w v1 x → kInt.C w R xs.length xs → (∀ b, F b → b < w.heap.size) →
  Calls Tryz.prog 42 #[u, v1, .int .i64 kv, .slice R k rc] w fun e w' => ∃ t, e = .returned t ∧ ReadStN w' t (afterS c x kv (xs.take k)) F ∧ Below w.heap.size w w'
set_option maxRecDepth 100000 in
set_option maxHeartbeats 8000000 in
theorem spec_after_zero (c : Code) (x : Inst) (kv : Nat) (xs : List Int) (R : Option Addr) (rc : Nat) (hcv : c.valid = true) (hxv : x.valid = true) (hkv : kv < x.vs.length) : AftP c x kv xs R rc 0 := by
  intro w u v1 F hc hx hr hF
  have HX := sA (And.intro hc (And.intro hx hr)); have HFF := sA hF; clear hF
  obtain ⟨A0, c0, A1, c1, A2, c2, rfl, a0, a1, a2⟩ := hc
  obtain ⟨B0, d0, B1, d1, B2, d2, rfl, b0, b1, b2⟩ := hx
  clear a0 a1 a2 b0 b1 b2
  clear hr
  have HL := sA (show afterS c x kv (xs.take 0) = startS c x kv from rfl)
  obtain ⟨HB0, HKC0, HKI0, HKS0, HZ0⟩ := opens3 w (.cells #[.int .i64 c.regs, .int .i64 c.slots, .slice A0 c.b0.length c0, .slice A1 c.b1.length c1, .slice A2 c.b2.length c2] 41) (.cells #[.slice B0 x.vs.length d0, .slice B1 x.qs.length d1, .slice B2 x.rs.length d2] 47) (.cells #[.int .i64 0, .int .i64 0, .int .i64 0, .int .i64 0, .int .i64 0, .int .i64 0, .slice none 0 0, .slice none 0 0, .slice none 0 0] 49)
  have HGKC := sA (show w.heap.size ≤ w.heap.size from Nat.le_add_right _ 0)
  have HGKI := sA (show w.heap.size ≤ w.heap.size + 1 from Nat.le_add_right _ 1)
  have HGKS := sA (show w.heap.size ≤ w.heap.size + 1 + 1 from Nat.le_add_right _ 2)
  have HSZ0 := sA (Nat.le_refl (((w.alloc (.cells #[.int .i64 c.regs, .int .i64 c.slots, .slice A0 c.b0.length c0, .slice A1 c.b1.length c1, .slice A2 c.b2.length c2] 41)).alloc (.cells #[.slice B0 x.vs.length d0, .slice B1 x.qs.length d1, .slice B2 x.rs.length d2] 47)).alloc (.cells #[.int .i64 0, .int .i64 0, .int .i64 0, .int .i64 0, .int .i64 0, .int .i64 0, .slice none 0 0, .slice none 0 0, .slice none 0 0] 49)).heap.size)
  go_enter Tryz.func42, Tryz.ntmps42
  go_wp2_with fail
  go_at_call 75
  refine (spec_StartState _ _ _ c (HX.out.1.below HB0.out) x (HX.out.2.1.below HB0.out) kv hcv hxv hkv (fun b => b = w.heap.size + 1 + 1 ∨ F b) (fun b hb => by rcases hb with rfl | hb; exact blk_lt HKS0.out; exact Nat.lt_of_lt_of_le (HFF.out b hb) HB0.out.size)).mono ?_
  rintro e w1 ⟨t, rfl, hN, hb⟩
  have HB1 := sA (bC HB0.out hb); have HKC1 := sA (bB HKC0.out hb); have HKI1 := sA (bB HKI0.out hb); have HKS1 := sA (bB HKS0.out hb); have HSZ1 := sA (Nat.le_trans HSZ0.out hb.size); clear hb
  obtain ⟨T0, e0, T1, e1, T2, e2, rfl, m0, m1, m2, mc, n0, n1, n2⟩ := hN
  have HCa1 := sA m0; have HCb1 := sA m1; have HCc1 := sA m2; have HNa := sA n0; have HNb := sA n1; have HNc := sA n2; have HCP := sA mc; clear m0 m1 m2 mc n0 n1 n2
  generalize hs9 : startS c x kv = s9 at *
  have HS9 := sA hs9; clear hs9
  obtain ⟨kc1, kc2⟩ := lay0 HKC1.out
  obtain ⟨ki1, ki2⟩ := lay0 HKI1.out
  obtain ⟨ks1, ks2⟩ := lay0 HKS1.out
  go_wp2_with ((with_reducible refine gate_store (t := 49) (p := 8) rfl ?_); refine wpList_putAll rfl rfl _ _ _ rfl (g := w.heap.size + 1 + 1) [.int .i64 s9.pos, .int .i64 s9.rule, .int .i64 s9.node, .int .i64 s9.time, .int .i64 s9.dist, .int .i64 s9.load, .slice T0 s9.s0.length e0, .slice T1 s9.s1.length e1, .slice T2 s9.s2.length e2] rfl rfl (by kernel_rfl) (one_all rfl) HKS1.out rfl ?_; intro w2 hX hT hz; clear hz; clear kc1 kc2 ki1 ki2 ks1 ks2; have HCa2 := sA (c_tch HCa1.out HNa.out hT (by first | exact Or.inl rfl | exact Or.inr (Or.inl rfl) | exact rfl)); have HCb2 := sA (c_tch HCb1.out HNb.out hT (by first | exact Or.inl rfl | exact Or.inr (Or.inl rfl) | exact rfl)); have HCc2 := sA (c_tch HCc1.out HNc.out hT (by first | exact Or.inl rfl | exact Or.inr (Or.inl rfl) | exact rfl)); (try simp only [List.setIfInBounds_toArray, List.set_cons_zero, List.set_cons_succ] at hX); have HB2 := sA (hT.below w (fun k hk => by rw [hk]; exact HGKS.out) HB1.out); have HKC2 := sA (tK hT HKS1.out HKC1.out (by decide)); have HKI2 := sA (tK hT HKS1.out HKI1.out (by decide)); have HSZ2 := sA (Nat.le_trans HSZ1.out hT.size); have HKS2 := sA hX; clear hX hT; obtain ⟨kc1, kc2⟩ := lay0 HKC2.out; obtain ⟨ki1, ki2⟩ := lay0 HKI2.out; obtain ⟨ks1, ks2⟩ := lay0 HKS2.out)
  clear kc1 kc2 ki1 ki2 ks1 ks2
  refine bodyPost_ret (results_cell Tryz.results42 rfl HKS2.out Tryz.underlying49 rfl (by kernel_rfl)) rfl ?_
  refine ⟨_, rfl, ?_, HB2.out⟩
  have e := HL.out
  rw [e]
  exact ⟨T0, e0, T1, e1, T2, e2, rfl, HCa2.out, HCb2.out, HCc2.out, HCP.out, fun a he hp hh => HNa.out a he hp (Or.inr hh), fun a he hp hh => HNb.out a he hp (Or.inr hh), fun a he hp hh => HNc.out a he hp (Or.inr hh)⟩
set_option maxRecDepth 100000 in
set_option maxHeartbeats 8000000 in
theorem spec_after_succ (c : Code) (x : Inst) (kv : Nat) (xs : List Int) (R : Option Addr) (rc : Nat) (hcv : c.valid = true) (hxv : x.valid = true) (hkv : kv < x.vs.length) (hs : x.stops xs = true) (k n : Nat) (hk : k < xs.length) (hn : n = k + 1) (h4 : k < 4096) (hrc : n ≤ rc) (hf : Fine c x kv (afterS c x kv (xs.take k)) k) (ih : AftP c x kv xs R rc k) : AftP c x kv xs R rc n := by
  have HIH := sA ih; have HFI := sA hf; clear ih hf
  intro w u v1 F hc hx hr hF
  have HX := sA (And.intro hc (And.intro hx hr)); have HFF := sA hF; clear hF
  obtain ⟨A0, c0, A1, c1, A2, c2, rfl, a0, a1, a2⟩ := hc
  obtain ⟨B0, d0, B1, d1, B2, d2, rfl, b0, b1, b2⟩ := hx
  clear a0 a1 a2 b0 b1 b2
  have hst : x.stop (xs.getD k 0) = true := allI_iff.1 hs k hk
  have HST := sA hst
  have HL := sA (show afterS c x kv (xs.take n) = stepS c x kv (afterS c x kv (xs.take k)) (xs.getD k 0) by rw [hn]; exact afterS_succ c x kv xs hk)
  obtain ⟨ad, e0, z0⟩ := int_at hr hk
  cases e0
  have hat : atI xs k = xs.getD k 0 := by unfold atI; rw [Int.toNat_natCast]
  rw [hat] at z0
  have ZE := sA z0
  generalize hy : xs.getD k 0 = y at *
  clear hr z0 hat hst
  have p0 : (((n : Nat) : Int) == 0) = false := by simp; omega
  have p1 : decide (((n : Nat) : Int) = 0) = false := by simp; omega
  have q0 : IntKind.i64.wrap ((n : Int) - 1) = (k : Int) := by rw [IntWalk.i64_in _ (by omega)]; omega
  have hkc : (k : Int) ≤ (rc : Int) := by omega
  have hkc2 : k ≤ rc := by omega
  have hkn : (k : Int) < (n : Int) := by omega
  have hkn2 : k < n := by omega
  have HHN := sA (And.intro hn hy); have HKK := sA hk; clear hn hy
  obtain ⟨HB0, HKC0, HKI0, HKS0, HZ0⟩ := opens3 w (.cells #[.int .i64 c.regs, .int .i64 c.slots, .slice A0 c.b0.length c0, .slice A1 c.b1.length c1, .slice A2 c.b2.length c2] 41) (.cells #[.slice B0 x.vs.length d0, .slice B1 x.qs.length d1, .slice B2 x.rs.length d2] 47) (.cells #[.int .i64 0, .int .i64 0, .int .i64 0, .int .i64 0, .int .i64 0, .int .i64 0, .slice none 0 0, .slice none 0 0, .slice none 0 0] 49)
  have HGKC := sA (show w.heap.size ≤ w.heap.size from Nat.le_add_right _ 0)
  have HGKI := sA (show w.heap.size ≤ w.heap.size + 1 from Nat.le_add_right _ 1)
  have HGKS := sA (show w.heap.size ≤ w.heap.size + 1 + 1 from Nat.le_add_right _ 2)
  have HSZ0 := sA (Nat.le_refl (((w.alloc (.cells #[.int .i64 c.regs, .int .i64 c.slots, .slice A0 c.b0.length c0, .slice A1 c.b1.length c1, .slice A2 c.b2.length c2] 41)).alloc (.cells #[.slice B0 x.vs.length d0, .slice B1 x.qs.length d1, .slice B2 x.rs.length d2] 47)).alloc (.cells #[.int .i64 0, .int .i64 0, .int .i64 0, .int .i64 0, .int .i64 0, .int .i64 0, .slice none 0 0, .slice none 0 0, .slice none 0 0] 49)).heap.size)
  go_enter Tryz.func42, Tryz.ntmps42
  go_wp2_with fail
  refine Grow.wp_region_deps 14 ⟨[(9, 29)], fun i v lo hi W => GAt [(9, StP (afterS c x kv (xs.take k)) (fun b => b = w.heap.size + 1 + 1 ∨ F b))] i v lo W, fun i v lo hi W W' hb h => GAt.stays (l := [(9, StP (afterS c x kv (xs.take k)) (fun b => b = w.heap.size + 1 + 1 ∨ F b))]) ⟨StP.stays _ _, trivial⟩ i v lo hi W W' hb h⟩ (by kernel_rfl) (show List.Pairwise (fun p q : Nat × Tmp => p.1 ≠ q.1 ∧ p.2 ≠ q.2) [(9, 29)] from by decide) (by kernel_rfl) (by rfl) ?_
  dsimp only [List.take, List.drop]
  repeat (refine Grow.lexD_do _ (by rfl) (by rfl) (by intro W hj; obtain ⟨kc1, kc2⟩ := lay hj.out HKC0.out; obtain ⟨ki1, ki2⟩ := lay hj.out HKI0.out; obtain ⟨ks1, ks2⟩ := lay hj.out HKS0.out; have cZE := pC (bC HB0.out hj.out) ZE.out; go_simp; first | exact Grow.UponB.val) ?_; refine Grow.lexD_norm (fun K hK => ?_); go_simp; refine hK _ ?_; clear hK K)
  refine Grow.lexD_make (by rfl) (by rfl) (by intro u lo hi W hj hd; have hlow := hj.out.size; obtain ⟨kc1, kc2⟩ := lay hj.out HKC0.out; obtain ⟨ki1, ki2⟩ := lay hj.out HKI0.out; obtain ⟨ks1, ks2⟩ := lay hj.out HKS0.out; have cZE := pC (bC HB0.out hj.out) ZE.out; dsimp only [Grow.fillM, List.foldl]; go_simp; have cc := HIH.out W _ _ (fun b => b = w.heap.size + 1 + 1 ∨ F b) (HX.out.1.below (bC HB0.out hj.out)) (HX.out.2.1.below (bC HB0.out hj.out)) (Kd.C_below HX.out.2.2 (bC HB0.out hj.out)) (fun b hb => by rcases hb with rfl | hb; exact Nat.lt_of_lt_of_le (blk_lt HKS0.out) hj.out.size; exact Nat.lt_of_lt_of_le (HFF.out b hb) (bC HB0.out hj.out).size); refine Grow.UponB.made ?_; (with_reducible refine Calls.mono cc ?_); rintro e w' ⟨v, rfl, hr, hb⟩; exact ⟨_, rfl, GAt.mk (P := StP (afterS c x kv (xs.take k)) (fun b => b = w.heap.size + 1 + 1 ∨ F b)) (hr) (by intro p hp he; simp only [List.mem_cons, List.not_mem_nil, or_false] at hp; rcases hp with rfl <;> first | rfl | exact absurd he (by simp)), hb⟩) ?_
  refine Grow.lexD_norm (fun K hK => ?_); go_simp; refine hK _ ?_; clear hK K
  repeat (refine Grow.lexD_do _ (by rfl) (by rfl) (by intro W hj; obtain ⟨kc1, kc2⟩ := lay hj.out HKC0.out; obtain ⟨ki1, ki2⟩ := lay hj.out HKI0.out; obtain ⟨ks1, ks2⟩ := lay hj.out HKS0.out; have cZE := pC (bC HB0.out hj.out) ZE.out; go_simp; first | exact Grow.UponB.val) ?_; refine Grow.lexD_norm (fun K hK => ?_); go_simp; refine hK _ ?_; clear hK K)
  refine Grow.lexD_nil (fun u lo hi w1 hj hG hord => ?_)
  have hN0 : ReadStN w1 (u 9) (afterS c x kv (xs.take k)) (fun b => b = w.heap.size + 1 + 1 ∨ F b) := (show StP (afterS c x kv (xs.take k)) (fun b => b = w.heap.size + 1 + 1 ∨ F b) (u 9) (lo 9) w1 from ((hG 9 rfl).1).at (by simp))
  clear hG hord
  dsimp only [List.foldl]
  clear p0 p1 q0
  refine wpl_norm (fun K hK => ?_); go_simp; refine hK _ ?_; clear hK K
  have hb := hj.out; clear hj
  have HB1 := sA (bC HB0.out hb); have HKC1 := sA (bB HKC0.out hb); have HKI1 := sA (bB HKI0.out hb); have HKS1 := sA (bB HKS0.out hb); have HSZ1 := sA (Nat.le_trans HSZ0.out hb.size); clear hb
  have HN0 := sA hN0; clear hN0
  have hfo := Fine.ok hcv hxv hkv HFI.out (by omega)
  have HFO := sA hfo; clear hfo
  generalize u 9 = t9 at *
  obtain ⟨kc1, kc2⟩ := lay0 HKC1.out
  obtain ⟨ki1, ki2⟩ := lay0 HKI1.out
  obtain ⟨ks1, ks2⟩ := lay0 HKS1.out
  go_wp2_with fail
  clear kc1 kc2 ki1 ki2 ks1 ks2
  go_at_call 76
  refine (spec_StepState _ _ _ _ c (HX.out.1.below HB1.out) x (HX.out.2.1.below HB1.out) kv (afterS c x kv (xs.take k)) k (fun b => b = w.heap.size + 1 + 1 ∨ F b) HN0.out (fun b hb => by rcases hb with rfl | hb; exact blk_lt HKS1.out; exact Nat.lt_of_lt_of_le (HFF.out b hb) HB1.out.size) HFO.out.2.2.1 HFO.out.1 HFI.out (by omega) y HST.out).mono ?_
  rintro e w2 ⟨t, rfl, hN, hb⟩
  have HB2 := sA (bC HB1.out hb); have HKC2 := sA (bB HKC1.out hb); have HKI2 := sA (bB HKI1.out hb); have HKS2 := sA (bB HKS1.out hb); have HSZ2 := sA (Nat.le_trans HSZ1.out hb.size); clear hb
  obtain ⟨T0, e0, T1, e1, T2, e2, rfl, m0, m1, m2, mc, n0, n1, n2⟩ := hN
  have HCa2 := sA m0; have HCb2 := sA m1; have HCc2 := sA m2; have HNa := sA n0; have HNb := sA n1; have HNc := sA n2; have HCP := sA mc; clear m0 m1 m2 mc n0 n1 n2
  generalize hs9 : stepS c x kv (afterS c x kv (xs.take k)) y = s9 at *
  have HS9 := sA hs9; clear hs9
  obtain ⟨kc1, kc2⟩ := lay0 HKC2.out
  obtain ⟨ki1, ki2⟩ := lay0 HKI2.out
  obtain ⟨ks1, ks2⟩ := lay0 HKS2.out
  go_wp2_with ((with_reducible refine gate_store (t := 49) (p := 8) rfl ?_); refine wpList_putAll rfl rfl _ _ _ rfl (g := w.heap.size + 1 + 1) [.int .i64 s9.pos, .int .i64 s9.rule, .int .i64 s9.node, .int .i64 s9.time, .int .i64 s9.dist, .int .i64 s9.load, .slice T0 s9.s0.length e0, .slice T1 s9.s1.length e1, .slice T2 s9.s2.length e2] rfl rfl (by kernel_rfl) (one_all rfl) HKS2.out rfl ?_; intro w3 hX hT hz; clear hz; clear kc1 kc2 ki1 ki2 ks1 ks2; have HCa3 := sA (c_tch HCa2.out HNa.out hT (by first | exact Or.inl rfl | exact Or.inr (Or.inl rfl) | exact rfl)); have HCb3 := sA (c_tch HCb2.out HNb.out hT (by first | exact Or.inl rfl | exact Or.inr (Or.inl rfl) | exact rfl)); have HCc3 := sA (c_tch HCc2.out HNc.out hT (by first | exact Or.inl rfl | exact Or.inr (Or.inl rfl) | exact rfl)); (try simp only [List.setIfInBounds_toArray, List.set_cons_zero, List.set_cons_succ] at hX); have HB3 := sA (hT.below w (fun k hk => by rw [hk]; exact HGKS.out) HB2.out); have HKC3 := sA (tK hT HKS2.out HKC2.out (by decide)); have HKI3 := sA (tK hT HKS2.out HKI2.out (by decide)); have HSZ3 := sA (Nat.le_trans HSZ2.out hT.size); have HKS3 := sA hX; clear hX hT; obtain ⟨kc1, kc2⟩ := lay0 HKC3.out; obtain ⟨ki1, ki2⟩ := lay0 HKI3.out; obtain ⟨ks1, ks2⟩ := lay0 HKS3.out)
  clear kc1 kc2 ki1 ki2 ks1 ks2
  refine bodyPost_ret (results_cell Tryz.results42 rfl HKS3.out Tryz.underlying49 rfl (by kernel_rfl)) rfl ?_
  refine ⟨_, rfl, ?_, HB3.out⟩
  have e := HL.out
  rw [e]
  exact ⟨T0, e0, T1, e1, T2, e2, rfl, HCa3.out, HCb3.out, HCc3.out, HCP.out, fun a he hp hh => HNa.out a he hp (Or.inr hh), fun a he hp hh => HNb.out a he hp (Or.inr hh), fun a he hp hh => HNc.out a he hp (Or.inr hh)⟩
theorem spec_after (c : Code) (x : Inst) (kv : Nat) (xs : List Int) (R : Option Addr) (rc : Nat) (hcv : c.valid = true) (hxv : x.valid = true) (hkv : kv < x.vs.length) (hs : x.stops xs = true) (hl : xs.length ≤ 4096) (hrc : xs.length ≤ rc) : ∀ k, k ≤ xs.length → AftP c x kv xs R rc k
  | 0, _ => spec_after_zero c x kv xs R rc hcv hxv hkv
  | k + 1, hk => spec_after_succ c x kv xs R rc hcv hxv hkv hs k (k + 1) (by omega) rfl (by omega) (by omega) (after_fine hcv hxv hkv hs hl k (by omega)) (spec_after c x kv xs R rc hcv hxv hkv hs hl hrc k (by omega))
section
variable (w : World)
set_option maxRecDepth 100000 in
set_option maxHeartbeats 8000000 in
theorem spec_RunRoute_code (u v1 : Value) (c : Code) (hc : ReadCode w u c) (x : Inst) (hx : ReadInst w v1 x) (v : Int) (R : Option Addr) (rc : Nat) (xs : List Int) (hr : kInt.C w R xs.length xs) (hcap : xs.length ≤ rc) (hcv : c.valid = false) :
    Calls Tryz.prog 17 #[u, v1, .int .i64 v, .slice R xs.length rc] w fun e w' => e = .returned (verV (runV c x v xs)) ∧ Below w.heap.size w w' := by
  have HX := sA (And.intro hc (And.intro hx hr)); have HXR := sA (show ReadInts w (.slice R xs.length rc) xs from ⟨R, rc, rfl, hr⟩)
  have hcc : ∀ (W : World) (u : Value), ReadCode W u c → Calls Tryz.prog 40 #[u] W fun e w' => e = .returned (.bool false) ∧ Below W.heap.size W w' := fun W u h => hcv ▸ spec_ValidCode W u c h
  have HCC := sA hcc; clear hcc
  have HL := sA (show runV c x v xs = (0, 0, 0) by unfold runV; rw [if_neg (by rw [hcv]; simp)]); clear hcv
  obtain ⟨A0, c0, A1, c1, A2, c2, rfl, a0, a1, a2⟩ := hc
  obtain ⟨B0, d0, B1, d1, B2, d2, rfl, b0, b1, b2⟩ := hx
  clear a0 a1 a2 b0 b1 b2 hr
  obtain ⟨HB0, HKC0, HKI0, HKV0, HZ0⟩ := opens3 w (.cells #[.int .i64 c.regs, .int .i64 c.slots, .slice A0 c.b0.length c0, .slice A1 c.b1.length c1, .slice A2 c.b2.length c2] 41) (.cells #[.slice B0 x.vs.length d0, .slice B1 x.qs.length d1, .slice B2 x.rs.length d2] 47) (.cells #[.int .i64 0, .int .i64 0, .int .i64 0] 37)
  have HGKC := sA (show w.heap.size ≤ w.heap.size from Nat.le_add_right _ 0)
  have HGKI := sA (show w.heap.size ≤ w.heap.size + 1 from Nat.le_add_right _ 1)
  have HGKV := sA (show w.heap.size ≤ w.heap.size + 1 + 1 from Nat.le_add_right _ 2)
  have HSZ0 := sA (Nat.le_refl (((w.alloc (.cells #[.int .i64 c.regs, .int .i64 c.slots, .slice A0 c.b0.length c0, .slice A1 c.b1.length c1, .slice A2 c.b2.length c2] 41)).alloc (.cells #[.slice B0 x.vs.length d0, .slice B1 x.qs.length d1, .slice B2 x.rs.length d2] 47)).alloc (.cells #[.int .i64 0, .int .i64 0, .int .i64 0] 37)).heap.size)
  go_enter Tryz.func17, Tryz.ntmps17
  go_wp2_with fail
  go_at_call 40
  refine (HCC.out _ _ (HX.out.1.below HB0.out)).mono ?_
  rintro e w1 ⟨rfl, hb⟩
  have HB1 := sA (bC HB0.out hb); have HKC1 := sA (bB HKC0.out hb); have HKI1 := sA (bB HKI0.out hb); have HKV1 := sA (bB HKV0.out hb); have HSZ1 := sA (Nat.le_trans HSZ0.out hb.size); clear hb
  obtain ⟨kc1, kc2⟩ := lay0 HKC1.out
  obtain ⟨ki1, ki2⟩ := lay0 HKI1.out
  obtain ⟨kv1, kv2⟩ := lay0 HKV1.out
  go_wp2_with ((with_reducible refine gate_store (t := 37) (p := 8) rfl ?_); refine wpList_putAll rfl rfl _ _ _ rfl (g := w.heap.size + 1 + 1) [.int .i64 0, .int .i64 0, .int .i64 0] rfl rfl (by kernel_rfl) (one_all rfl) HKV1.out rfl ?_; intro w2 hX hT hz; clear hz; clear kc1 kc2 ki1 ki2 kv1 kv2; (try simp only [List.setIfInBounds_toArray, List.set_cons_zero, List.set_cons_succ] at hX); have HB2 := sA (hT.below w (fun k hk => by rw [hk]; exact HGKV.out) HB1.out); have HKC2 := sA (tK hT HKV1.out HKC1.out (by decide)); have HKI2 := sA (tK hT HKV1.out HKI1.out (by decide)); have HSZ2 := sA (Nat.le_trans HSZ1.out hT.size); have HKV2 := sA hX; clear hX hT; obtain ⟨kc1, kc2⟩ := lay0 HKC2.out; obtain ⟨ki1, ki2⟩ := lay0 HKI2.out; obtain ⟨kv1, kv2⟩ := lay0 HKV2.out)
  clear kc1 kc2 ki1 ki2 kv1 kv2
  refine bodyPost_ret (results_cell Tryz.results17 rfl HKV2.out Tryz.underlying37 rfl (by kernel_rfl)) rfl ?_
  exact ⟨by rw [HL.out]; rfl, HB2.out⟩
set_option maxRecDepth 100000 in
set_option maxHeartbeats 8000000 in
theorem spec_RunRoute_route (u v1 : Value) (c : Code) (hc : ReadCode w u c) (x : Inst) (hx : ReadInst w v1 x) (v : Int) (R : Option Addr) (rc : Nat) (xs : List Int) (hr : kInt.C w R xs.length xs) (hcap : xs.length ≤ rc) (hcv : c.valid = true) (hro : x.routeOk v xs = false) :
    Calls Tryz.prog 17 #[u, v1, .int .i64 v, .slice R xs.length rc] w fun e w' => e = .returned (verV (runV c x v xs)) ∧ Below w.heap.size w w' := by
  have HX := sA (And.intro hc (And.intro hx hr)); have HXR := sA (show ReadInts w (.slice R xs.length rc) xs from ⟨R, rc, rfl, hr⟩)
  have hcc : ∀ (W : World) (u : Value), ReadCode W u c → Calls Tryz.prog 40 #[u] W fun e w' => e = .returned (.bool true) ∧ Below W.heap.size W w' := fun W u h => hcv ▸ spec_ValidCode W u c h
  have hrr : ∀ (W : World) (u r : Value), ReadInst W u x → ReadInts W r xs → Calls Tryz.prog 41 #[u, .int .i64 v, r] W fun e w' => e = .returned (.bool false) ∧ Below W.heap.size W w' := fun W u r h h' => hro ▸ spec_routeOk W u r x h v xs h'
  have HRR := sA hrr; clear hrr
  have HCC := sA hcc; clear hcc
  have HL := sA (show runV c x v xs = (0, 0, 0) by unfold runV; rw [if_neg (by rw [hro]; simp)]); clear hcv hro
  obtain ⟨A0, c0, A1, c1, A2, c2, rfl, a0, a1, a2⟩ := hc
  obtain ⟨B0, d0, B1, d1, B2, d2, rfl, b0, b1, b2⟩ := hx
  clear a0 a1 a2 b0 b1 b2 hr
  obtain ⟨HB0, HKC0, HKI0, HKV0, HZ0⟩ := opens3 w (.cells #[.int .i64 c.regs, .int .i64 c.slots, .slice A0 c.b0.length c0, .slice A1 c.b1.length c1, .slice A2 c.b2.length c2] 41) (.cells #[.slice B0 x.vs.length d0, .slice B1 x.qs.length d1, .slice B2 x.rs.length d2] 47) (.cells #[.int .i64 0, .int .i64 0, .int .i64 0] 37)
  have HGKC := sA (show w.heap.size ≤ w.heap.size from Nat.le_add_right _ 0)
  have HGKI := sA (show w.heap.size ≤ w.heap.size + 1 from Nat.le_add_right _ 1)
  have HGKV := sA (show w.heap.size ≤ w.heap.size + 1 + 1 from Nat.le_add_right _ 2)
  have HSZ0 := sA (Nat.le_refl (((w.alloc (.cells #[.int .i64 c.regs, .int .i64 c.slots, .slice A0 c.b0.length c0, .slice A1 c.b1.length c1, .slice A2 c.b2.length c2] 41)).alloc (.cells #[.slice B0 x.vs.length d0, .slice B1 x.qs.length d1, .slice B2 x.rs.length d2] 47)).alloc (.cells #[.int .i64 0, .int .i64 0, .int .i64 0] 37)).heap.size)
  go_enter Tryz.func17, Tryz.ntmps17
  go_wp2_with fail
  go_at_call 40
  refine (HCC.out _ _ (HX.out.1.below HB0.out)).mono ?_
  rintro e w1 ⟨rfl, hb⟩
  have HB1 := sA (bC HB0.out hb); have HKC1 := sA (bB HKC0.out hb); have HKI1 := sA (bB HKI0.out hb); have HKV1 := sA (bB HKV0.out hb); have HSZ1 := sA (Nat.le_trans HSZ0.out hb.size); clear hb
  obtain ⟨kc1, kc2⟩ := lay0 HKC1.out
  obtain ⟨ki1, ki2⟩ := lay0 HKI1.out
  obtain ⟨kv1, kv2⟩ := lay0 HKV1.out
  go_wp2_with fail
  clear kc1 kc2 ki1 ki2 kv1 kv2
  go_at_call 41
  refine (HRR.out _ _ _ (HX.out.2.1.below HB1.out) (HXR.out.below HB1.out)).mono ?_
  rintro e w2 ⟨rfl, hb⟩
  have HB2 := sA (bC HB1.out hb); have HKC2 := sA (bB HKC1.out hb); have HKI2 := sA (bB HKI1.out hb); have HKV2 := sA (bB HKV1.out hb); have HSZ2 := sA (Nat.le_trans HSZ1.out hb.size); clear hb
  obtain ⟨kc1, kc2⟩ := lay0 HKC2.out
  obtain ⟨ki1, ki2⟩ := lay0 HKI2.out
  obtain ⟨kv1, kv2⟩ := lay0 HKV2.out
  go_wp2_with ((with_reducible refine gate_store (t := 37) (p := 8) rfl ?_); refine wpList_putAll rfl rfl _ _ _ rfl (g := w.heap.size + 1 + 1) [.int .i64 0, .int .i64 0, .int .i64 0] rfl rfl (by kernel_rfl) (one_all rfl) HKV2.out rfl ?_; intro w3 hX hT hz; clear hz; clear kc1 kc2 ki1 ki2 kv1 kv2; (try simp only [List.setIfInBounds_toArray, List.set_cons_zero, List.set_cons_succ] at hX); have HB3 := sA (hT.below w (fun k hk => by rw [hk]; exact HGKV.out) HB2.out); have HKC3 := sA (tK hT HKV2.out HKC2.out (by decide)); have HKI3 := sA (tK hT HKV2.out HKI2.out (by decide)); have HSZ3 := sA (Nat.le_trans HSZ2.out hT.size); have HKV3 := sA hX; clear hX hT; obtain ⟨kc1, kc2⟩ := lay0 HKC3.out; obtain ⟨ki1, ki2⟩ := lay0 HKI3.out; obtain ⟨kv1, kv2⟩ := lay0 HKV3.out)
  clear kc1 kc2 ki1 ki2 kv1 kv2
  refine bodyPost_ret (results_cell Tryz.results17 rfl HKV3.out Tryz.underlying37 rfl (by kernel_rfl)) rfl ?_
  exact ⟨by rw [HL.out]; rfl, HB3.out⟩
set_option maxRecDepth 100000 in
set_option maxHeartbeats 8000000 in
theorem spec_RunRoute_good (u v1 : Value) (c : Code) (hc : ReadCode w u c) (x : Inst) (hx : ReadInst w v1 x) (v : Int) (R : Option Addr) (rc : Nat) (xs : List Int) (hr : kInt.C w R xs.length xs) (hcap : xs.length ≤ rc) (hcv : c.valid = true) (hro : x.routeOk v xs = true) :
    Calls Tryz.prog 17 #[u, v1, .int .i64 v, .slice R xs.length rc] w fun e w' => e = .returned (verV (runV c x v xs)) ∧ Below w.heap.size w w' := by
  have HX := sA (And.intro hc (And.intro hx hr)); have HXR := sA (show ReadInts w (.slice R xs.length rc) xs from ⟨R, rc, rfl, hr⟩)
  have hcc : ∀ (W : World) (u : Value), ReadCode W u c → Calls Tryz.prog 40 #[u] W fun e w' => e = .returned (.bool true) ∧ Below W.heap.size W w' := fun W u h => hcv ▸ spec_ValidCode W u c h
  have hrr : ∀ (W : World) (u r : Value), ReadInst W u x → ReadInts W r xs → Calls Tryz.prog 41 #[u, .int .i64 v, r] W fun e w' => e = .returned (.bool true) ∧ Below W.heap.size W w' := fun W u r h h' => hro ▸ spec_routeOk W u r x h v xs h'
  have HRR := sA hrr; clear hrr
  have HCC := sA hcc; clear hcc
  have HL := sA (show runV c x v xs = finS c x v.toNat (afterS c x v.toNat xs) by unfold runV; rw [if_pos ⟨hcv, hro⟩])
  obtain ⟨hxv, hvi, hl, hst⟩ := Inst.routeOk_iff.1 hro
  rw [inB_iff] at hvi
  obtain ⟨kv, rfl⟩ := Int.eq_ofNat_of_zero_le hvi.1
  rw [Int.toNat_natCast] at HL
  have hkv : kv < x.vs.length := by omega
  have hft := after_fine hcv hxv hkv hst hl xs.length (Nat.le_refl _)
  rw [List.take_length] at hft
  have HFO := sA (And.intro (hft.fin hcv hxv hkv hl) (hft.ok hcv hxv hkv hl))
  have haf := spec_after c x kv xs R rc hcv hxv hkv hst hl hcap xs.length (Nat.le_refl _)
  unfold AftP at haf
  rw [List.take_length] at haf
  have HAF := sA haf; clear haf hft hro hst hvi
  obtain ⟨A0, c0, A1, c1, A2, c2, rfl, a0, a1, a2⟩ := hc
  obtain ⟨B0, d0, B1, d1, B2, d2, rfl, b0, b1, b2⟩ := hx
  clear a0 a1 a2 b0 b1 b2 hr
  obtain ⟨HB0, HKC0, HKI0, HKV0, HZ0⟩ := opens3 w (.cells #[.int .i64 c.regs, .int .i64 c.slots, .slice A0 c.b0.length c0, .slice A1 c.b1.length c1, .slice A2 c.b2.length c2] 41) (.cells #[.slice B0 x.vs.length d0, .slice B1 x.qs.length d1, .slice B2 x.rs.length d2] 47) (.cells #[.int .i64 0, .int .i64 0, .int .i64 0] 37)
  have HGKC := sA (show w.heap.size ≤ w.heap.size from Nat.le_add_right _ 0)
  have HGKI := sA (show w.heap.size ≤ w.heap.size + 1 from Nat.le_add_right _ 1)
  have HGKV := sA (show w.heap.size ≤ w.heap.size + 1 + 1 from Nat.le_add_right _ 2)
  have HSZ0 := sA (Nat.le_refl (((w.alloc (.cells #[.int .i64 c.regs, .int .i64 c.slots, .slice A0 c.b0.length c0, .slice A1 c.b1.length c1, .slice A2 c.b2.length c2] 41)).alloc (.cells #[.slice B0 x.vs.length d0, .slice B1 x.qs.length d1, .slice B2 x.rs.length d2] 47)).alloc (.cells #[.int .i64 0, .int .i64 0, .int .i64 0] 37)).heap.size)
  go_enter Tryz.func17, Tryz.ntmps17
  go_wp2_with fail
  go_at_call 40
  refine (HCC.out _ _ (HX.out.1.below HB0.out)).mono ?_
  rintro e w1 ⟨rfl, hb⟩
  have HB1 := sA (bC HB0.out hb); have HKC1 := sA (bB HKC0.out hb); have HKI1 := sA (bB HKI0.out hb); have HKV1 := sA (bB HKV0.out hb); have HSZ1 := sA (Nat.le_trans HSZ0.out hb.size); clear hb
  obtain ⟨kc1, kc2⟩ := lay0 HKC1.out
  obtain ⟨ki1, ki2⟩ := lay0 HKI1.out
  obtain ⟨kv1, kv2⟩ := lay0 HKV1.out
  go_wp2_with fail
  clear kc1 kc2 ki1 ki2 kv1 kv2
  go_at_call 41
  refine (HRR.out _ _ _ (HX.out.2.1.below HB1.out) (HXR.out.below HB1.out)).mono ?_
  rintro e w2 ⟨rfl, hb⟩
  have HB2 := sA (bC HB1.out hb); have HKC2 := sA (bB HKC1.out hb); have HKI2 := sA (bB HKI1.out hb); have HKV2 := sA (bB HKV1.out hb); have HSZ2 := sA (Nat.le_trans HSZ1.out hb.size); clear hb
  obtain ⟨kc1, kc2⟩ := lay0 HKC2.out
  obtain ⟨ki1, ki2⟩ := lay0 HKI2.out
  obtain ⟨kv1, kv2⟩ := lay0 HKV2.out
  go_wp2_with fail
  clear kc1 kc2 ki1 ki2 kv1 kv2
  refine Grow.wp_region_deps 8 ⟨[(7, 27)], fun i v lo hi W => GAt [(7, StP (afterS c x kv xs) (fun _ => False))] i v lo W, fun i v lo hi W W' hb h => GAt.stays (l := [(7, StP (afterS c x kv xs) (fun _ => False))]) ⟨StP.stays _ _, trivial⟩ i v lo hi W W' hb h⟩ (by kernel_rfl) (show List.Pairwise (fun p q : Nat × Tmp => p.1 ≠ q.1 ∧ p.2 ≠ q.2) [(7, 27)] from by decide) (by kernel_rfl) (by rfl) ?_
  dsimp only [List.take, List.drop]
  repeat (refine Grow.lexD_do _ (by rfl) (by rfl) (by intro W hj; obtain ⟨kc1, kc2⟩ := lay hj.out HKC2.out; obtain ⟨ki1, ki2⟩ := lay hj.out HKI2.out; obtain ⟨kv1, kv2⟩ := lay hj.out HKV2.out; go_simp; first | exact Grow.UponB.val) ?_; refine Grow.lexD_norm (fun K hK => ?_); go_simp; refine hK _ ?_; clear hK K)
  refine Grow.lexD_make (by rfl) (by rfl) (by intro u lo hi W hj hd; have hlow : w2.heap.size ≤ W.heap.size := hj.out.size; obtain ⟨kc1, kc2⟩ := lay hj.out HKC2.out; obtain ⟨ki1, ki2⟩ := lay hj.out HKI2.out; obtain ⟨kv1, kv2⟩ := lay hj.out HKV2.out; dsimp only [Grow.fillM, List.foldl]; go_simp; have cc := HAF.out W _ _ (fun _ => False) (HX.out.1.below (bC HB2.out hj.out)) (HX.out.2.1.below (bC HB2.out hj.out)) (Kd.C_below HX.out.2.2 (bC HB2.out hj.out)) (fun b hb => hb.elim); refine Grow.UponB.made ?_; (with_reducible refine Calls.mono cc ?_); rintro e w' ⟨v, rfl, hr, hb⟩; exact ⟨_, rfl, GAt.mk (P := StP (afterS c x kv xs) (fun _ => False)) (hr) (by intro p hp he; simp only [List.mem_cons, List.not_mem_nil, or_false] at hp; rcases hp with rfl <;> first | rfl | exact absurd he (by simp)), hb⟩) ?_
  refine Grow.lexD_norm (fun K hK => ?_); go_simp; refine hK _ ?_; clear hK K
  refine Grow.lexD_nil (fun u lo hi w3 hj hG hord => ?_)
  have hN0 : ReadStN w3 (u 7) (afterS c x kv xs) (fun _ => False) := (show StP (afterS c x kv xs) (fun _ => False) (u 7) (lo 7) w3 from ((hG 7 rfl).1).at (by simp))
  clear hG hord
  dsimp only [List.foldl]
  refine wpl_norm (fun K hK => ?_); go_simp; refine hK _ ?_; clear hK K
  have hb := hj.out; clear hj
  have HB3 := sA (bC HB2.out hb); have HKC3 := sA (bB HKC2.out hb); have HKI3 := sA (bB HKI2.out hb); have HKV3 := sA (bB HKV2.out hb); have HSZ3 := sA (Nat.le_trans HSZ2.out hb.size); clear hb
  have HN0 := sA hN0; clear hN0
  generalize u 7 = t9 at *
  obtain ⟨kc1, kc2⟩ := lay0 HKC3.out
  obtain ⟨ki1, ki2⟩ := lay0 HKI3.out
  obtain ⟨kv1, kv2⟩ := lay0 HKV3.out
  go_wp2_with fail
  clear kc1 kc2 ki1 ki2 kv1 kv2
  go_at_call 8
  refine (spec_FinishState _ _ _ _ c (HX.out.1.below HB3.out) x (HX.out.2.1.below HB3.out) kv (afterS c x kv xs) HN0.out.readC HFO.out.2.2.2.1).mono ?_
  rintro e w4 ⟨rfl, hb⟩
  have HB4 := sA (bC HB3.out hb); have HKC4 := sA (bB HKC3.out hb); have HKI4 := sA (bB HKI3.out hb); have HKV4 := sA (bB HKV3.out hb); have HSZ4 := sA (Nat.le_trans HSZ3.out hb.size); clear hb
  rw [HFO.out.1]
  have HLL := HL.out
  generalize hr3 : finS c x kv (afterS c x kv xs) = r3 at *
  obtain ⟨ra, rb, rc'⟩ := r3
  unfold verV
  clear hr3
  clear HLL
  obtain ⟨kc1, kc2⟩ := lay0 HKC4.out
  obtain ⟨ki1, ki2⟩ := lay0 HKI4.out
  obtain ⟨kv1, kv2⟩ := lay0 HKV4.out
  go_wp2_with ((with_reducible refine gate_store (t := 37) (p := 8) rfl ?_); refine wpList_putAll rfl rfl _ _ _ rfl (g := w.heap.size + 1 + 1) [.int .i64 ra, .int .i64 rb, .int .i64 rc'] rfl rfl (by kernel_rfl) (one_all rfl) HKV4.out rfl ?_; intro w5 hX hT hz; clear hz; clear kc1 kc2 ki1 ki2 kv1 kv2; (try simp only [List.setIfInBounds_toArray, List.set_cons_zero, List.set_cons_succ] at hX); have HB5 := sA (hT.below w (fun k hk => by rw [hk]; exact HGKV.out) HB4.out); have HKC5 := sA (tK hT HKV4.out HKC4.out (by decide)); have HKI5 := sA (tK hT HKV4.out HKI4.out (by decide)); have HSZ5 := sA (Nat.le_trans HSZ4.out hT.size); have HKV5 := sA hX; clear hX hT; obtain ⟨kc1, kc2⟩ := lay0 HKC5.out; obtain ⟨ki1, ki2⟩ := lay0 HKI5.out; obtain ⟨kv1, kv2⟩ := lay0 HKV5.out)
  clear kc1 kc2 ki1 ki2 kv1 kv2
  refine bodyPost_ret (results_cell Tryz.results17 rfl HKV5.out Tryz.underlying37 rfl (by kernel_rfl)) rfl ?_
  exact ⟨by rw [HL.out]; rfl, HB5.out⟩
theorem spec_RunRoute (u v1 : Value) (c : Code) (hc : ReadCode w u c) (x : Inst) (hx : ReadInst w v1 x) (v : Int) (R : Option Addr) (rc : Nat) (xs : List Int) (hr : kInt.C w R xs.length xs) (hcap : xs.length ≤ rc) :
    Calls Tryz.prog 17 #[u, v1, .int .i64 v, .slice R xs.length rc] w fun e w' => e = .returned (verV (runV c x v xs)) ∧ Below w.heap.size w w' := by
  cases hcv : c.valid with
  | false => exact spec_RunRoute_code w u v1 c hc x hx v R rc xs hr hcap hcv
  | true =>
    cases hro : x.routeOk v xs with
    | false => exact spec_RunRoute_route w u v1 c hc x hx v R rc xs hr hcap hcv hro
    | true => exact spec_RunRoute_good w u v1 c hc x hx v R rc xs hr hcap hcv hro
end
end Go.Proofs.YtlhpbpkefkabgaaGreat.L1
