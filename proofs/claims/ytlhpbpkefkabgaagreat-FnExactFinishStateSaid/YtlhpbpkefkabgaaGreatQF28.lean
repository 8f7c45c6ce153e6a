/- The program's FinishState. -/
import Derived.Test.YtlhpbpkefkabgaaGreatQF27
namespace Go.Proofs.YtlhpbpkefkabgaaGreat.L1
open Go.RowKit Go.Proofs.YtlhpbpkefkabgaaGreatW.PrintWords Go.Proofs.YtlhpbpkefkabgaaGreat.B
set_option linter.unusedVariables false
set_option linter.unusedSimpArgs false
attribute [local go_sem] mk_cell mk_frozen
theorem finV_neg {c : Code} {x : Inst} {v : Int} {s : St} (h : s.pos < 0) : finV c x v s = (0, 0, 0) := by
  unfold finV
  rw [if_neg ?_]
  rintro ⟨h1, h2⟩
  unfold stateOk at h1
  rw [Bool.and_eq_true] at h1
  have h3 := h1.2
  unfold St.ok at h3
  split at h3
  · simp only [Bool.and_eq_true, inB_iff] at h3; omega
  split at h3
  · cases h3
  try (rw [if_neg h2] at h3)
  unfold St.runOk at h3
  simp only [Bool.and_eq_true, inB_iff] at h3
  omega
section
variable (w : World)
set_option maxRecDepth 100000 in
set_option maxHeartbeats 8000000 in
theorem impl_FinishState (u v1 t : Value) (c : Code) (hc : ReadCode w u c) (x : Inst) (hx : ReadInst w v1 x) (v : Int) (s : St) (hs : ReadState w t s) (hn : s.small) : Calls Tryz.prog 12 #[u, v1, .int .i64 v, t] w fun e w' => e = .returned (verV (finV c x v s)) ∧ Below w.heap.size w w' := by
  have HX := Aside0.mk (And.intro hc (And.intro hx hs)); have HN := Aside0.mk hn
  obtain ⟨A0, c0, A1, c1, A2, c2, rfl, a0, a1, a2⟩ := hc
  obtain ⟨B0, d0, B1, d1, B2, d2, rfl, b0, b1, b2⟩ := hx
  obtain ⟨S0, g0, S1, g1, S2, g2, rfl, s0, s1, s2⟩ := hs
  have HS := Aside0.mk (And.intro s0 (And.intro s1 (And.intro s2 a2)))
  clear a0 a1 a2 b0 b1 b2 s0 s1 s2 hn
  have HB0 := Aside0.mk (below_alloc (below_alloc (below_alloc (below_alloc (Below.refl w.heap.size w) (.cells #[.int .i64 c.regs, .int .i64 c.slots, .slice A0 c.b0.length c0, .slice A1 c.b1.length c1, .slice A2 c.b2.length c2] 41)) (.cells #[.slice B0 x.vs.length d0, .slice B1 x.qs.length d1, .slice B2 x.rs.length d2] 47)) (.cells #[.int .i64 s.pos, .int .i64 s.rule, .int .i64 s.node, .int .i64 s.time, .int .i64 s.dist, .int .i64 s.load, .slice S0 s.s0.length g0, .slice S1 s.s1.length g1, .slice S2 s.s2.length g2] 49)) (.cells #[.int .i64 0, .int .i64 0, .int .i64 0] 37))
  have h := al_new w (.cells #[.int .i64 c.regs, .int .i64 c.slots, .slice A0 c.b0.length c0, .slice A1 c.b1.length c1, .slice A2 c.b2.length c2] 41)
  replace h := blk_box h (.cells #[.slice B0 x.vs.length d0, .slice B1 x.qs.length d1, .slice B2 x.rs.length d2] 47)
  replace h := blk_box h (.cells #[.int .i64 s.pos, .int .i64 s.rule, .int .i64 s.node, .int .i64 s.time, .int .i64 s.dist, .int .i64 s.load, .slice S0 s.s0.length g0, .slice S1 s.s1.length g1, .slice S2 s.s2.length g2] 49)
  replace h := blk_box h (.cells #[.int .i64 0, .int .i64 0, .int .i64 0] 37)
  have HKC0 := Aside0.mk h; clear h
  have h := al_new (w.alloc (.cells #[.int .i64 c.regs, .int .i64 c.slots, .slice A0 c.b0.length c0, .slice A1 c.b1.length c1, .slice A2 c.b2.length c2] 41)) (.cells #[.slice B0 x.vs.length d0, .slice B1 x.qs.length d1, .slice B2 x.rs.length d2] 47)
  simp only [al_size] at h
  replace h := blk_box h (.cells #[.int .i64 s.pos, .int .i64 s.rule, .int .i64 s.node, .int .i64 s.time, .int .i64 s.dist, .int .i64 s.load, .slice S0 s.s0.length g0, .slice S1 s.s1.length g1, .slice S2 s.s2.length g2] 49)
  replace h := blk_box h (.cells #[.int .i64 0, .int .i64 0, .int .i64 0] 37)
  have HKI0 := Aside0.mk h; clear h
  have h := al_new ((w.alloc (.cells #[.int .i64 c.regs, .int .i64 c.slots, .slice A0 c.b0.length c0, .slice A1 c.b1.length c1, .slice A2 c.b2.length c2] 41)).alloc (.cells #[.slice B0 x.vs.length d0, .slice B1 x.qs.length d1, .slice B2 x.rs.length d2] 47)) (.cells #[.int .i64 s.pos, .int .i64 s.rule, .int .i64 s.node, .int .i64 s.time, .int .i64 s.dist, .int .i64 s.load, .slice S0 s.s0.length g0, .slice S1 s.s1.length g1, .slice S2 s.s2.length g2] 49)
  simp only [al_size] at h
  replace h := blk_box h (.cells #[.int .i64 0, .int .i64 0, .int .i64 0] 37)
  have HKS0 := Aside0.mk h; clear h
  have h := al_new (((w.alloc (.cells #[.int .i64 c.regs, .int .i64 c.slots, .slice A0 c.b0.length c0, .slice A1 c.b1.length c1, .slice A2 c.b2.length c2] 41)).alloc (.cells #[.slice B0 x.vs.length d0, .slice B1 x.qs.length d1, .slice B2 x.rs.length d2] 47)).alloc (.cells #[.int .i64 s.pos, .int .i64 s.rule, .int .i64 s.node, .int .i64 s.time, .int .i64 s.dist, .int .i64 s.load, .slice S0 s.s0.length g0, .slice S1 s.s1.length g1, .slice S2 s.s2.length g2] 49)) (.cells #[.int .i64 0, .int .i64 0, .int .i64 0] 37)
  simp only [al_size] at h
  have HKR0 := Aside0.mk h; clear h
  have HZ0 := Aside0.mk (show ((((w.alloc (.cells #[.int .i64 c.regs, .int .i64 c.slots, .slice A0 c.b0.length c0, .slice A1 c.b1.length c1, .slice A2 c.b2.length c2] 41)).alloc (.cells #[.slice B0 x.vs.length d0, .slice B1 x.qs.length d1, .slice B2 x.rs.length d2] 47)).alloc (.cells #[.int .i64 s.pos, .int .i64 s.rule, .int .i64 s.node, .int .i64 s.time, .int .i64 s.dist, .int .i64 s.load, .slice S0 s.s0.length g0, .slice S1 s.s1.length g1, .slice S2 s.s2.length g2] 49)).alloc (.cells #[.int .i64 0, .int .i64 0, .int .i64 0] 37)).heap.size = w.heap.size + 4 by simp only [al_size])
  rcases Int.lt_or_le s.pos 0 with hp | hp
  · have hd : decide (s.pos < 0) = true := decide_eq_true hp
    have HL := Aside0.mk (finV_neg (c := c) (x := x) (v := v) hp); clear hp
    go_enter Tryz.func12, Tryz.ntmps12
    go_wp2_with ((with_reducible refine gate_store (t := 37) (p := 8) rfl ?_); refine wpList_putAll rfl rfl _ _ _ rfl (g := w.heap.size + 1 + 1 + 1) [.int .i64 0, .int .i64 0, .int .i64 0] rfl rfl (by kernel_rfl) (List.all_eq_true.1 (show List.all [.int .i64 0, .int .i64 0, .int .i64 0] Value.oneCell' = true from rfl)) HKR0.out rfl ?_; intro wz hX hT hz; clear hz; have HBz := Aside0.mk (hT.below w (fun k hk => by rw [hk]; omega) HB0.out); have HKz := Aside0.mk hX; clear hX hT)
    refine bodyPost_ret (results_cell Tryz.results12 rfl HKz.out Tryz.underlying37 rfl (by kernel_rfl)) rfl ⟨?_, HBz.out⟩
    rw [HL.out]; rfl
  · have hd : decide (s.pos < 0) = false := decide_eq_false (by omega)
    go_enter Tryz.func12, Tryz.ntmps12
    go_wp2_with fail
    go_at_call 34
    refine (impl_ValidState _ _ _ _ c (HX.out.1.below HB0.out) x (HX.out.2.1.below HB0.out) v s (HX.out.2.2.below HB0.out) HN.out).mono ?_
    rintro e w1 ⟨rfl, hb⟩
    have HB1 := Aside0.mk (bel_call HB0.out hb); have HKC1 := Aside0.mk (blk_below HKC0.out hb); have HKI1 := Aside0.mk (blk_below HKI0.out hb); have HKS1 := Aside0.mk (blk_below HKS0.out hb); have HKR1 := Aside0.mk (blk_below HKR0.out hb); clear hb
    cases hq : stateOk c x v s with
    | false =>
      have HL := Aside0.mk (show finV c x v s = (0, 0, 0) by unfold finV; rw [if_neg (by rw [hq]; simp)]); clear hq
      go_wp2_with ((with_reducible refine gate_store (t := 37) (p := 8) rfl ?_); refine wpList_putAll rfl rfl _ _ _ rfl (g := w.heap.size + 1 + 1 + 1) [.int .i64 0, .int .i64 0, .int .i64 0] rfl rfl (by kernel_rfl) (List.all_eq_true.1 (show List.all [.int .i64 0, .int .i64 0, .int .i64 0] Value.oneCell' = true from rfl)) HKR1.out rfl ?_; intro wz hX hT hz; clear hz; have HBz := Aside0.mk (hT.below w (fun k hk => by rw [hk]; omega) HB1.out); have HKz := Aside0.mk hX; clear hX hT)
      refine bodyPost_ret (results_cell Tryz.results12 rfl HKz.out Tryz.underlying37 rfl (by kernel_rfl)) rfl ⟨?_, HBz.out⟩
      rw [HL.out]; rfl
    | true =>
      have hok := hq; unfold stateOk at hok; rw [Bool.and_eq_true] at hok
      obtain ⟨kv, rfl, hkv, hcv, hxv⟩ := askOk_of hok.1
      have HL := Aside0.mk (show finV c x (kv : Int) s = finS c x kv s by unfold finV; rw [if_pos ⟨hq, by omega⟩, Int.toNat_natCast])
      have HR := Aside0.mk (show 0 ≤ s.rule ∨ Run c x kv s by
        rcases Int.lt_or_le s.rule 0 with h | h
        · exact .inr (Run.of hkv hcv hxv hok.2 (by omega) (by omega))
        · exact .inl h)
      clear hq hok hkv hcv hxv hd hp
      obtain ⟨kc1, kc2⟩ := lay (Below.refl _ _) HKC1.out
      obtain ⟨ki1, ki2⟩ := lay (Below.refl _ _) HKI1.out
      obtain ⟨ks1, ks2⟩ := lay (Below.refl _ _) HKS1.out
      obtain ⟨kr1, kr2⟩ := lay (Below.refl _ _) HKR1.out
      go_wp2_with fail
      clear kc1 kc2 ki1 ki2 ks1 ks2 kr1 kr2
      go_at_call 35
      refine (impl_finish w1 c A0 c0 A1 c1 A2 c2 x B0 d0 B1 d1 B2 d2 kv s S0 g0 S1 g1 S2 g2 (Kd.C_below HS.out.1 HB1.out) (Kd.C_below HS.out.2.1 HB1.out) (Kd.C_below HS.out.2.2.1 HB1.out) (HX.out.2.1.below HB1.out) (Kd.C_below HS.out.2.2.2 HB1.out) HR.out).mono ?_
      rintro e w2 ⟨rfl, hb⟩
      have HB2 := Aside0.mk (bel_call HB1.out hb); have HKC2 := Aside0.mk (blk_below HKC1.out hb); have HKI2 := Aside0.mk (blk_below HKI1.out hb); have HKS2 := Aside0.mk (blk_below HKS1.out hb); have HKR2 := Aside0.mk (blk_below HKR1.out hb); clear hb
      have HLL := HL.out; generalize hr3 : finS c x kv s = r3 at *
      obtain ⟨ra, rb, rc⟩ := r3
      unfold verV
      clear hr3 HLL
      go_wp2_with ((with_reducible refine gate_store (t := 37) (p := 8) rfl ?_); refine wpList_putAll rfl rfl _ _ _ rfl (g := w.heap.size + 1 + 1 + 1) [.int .i64 ra, .int .i64 rb, .int .i64 rc] rfl rfl (by kernel_rfl) (List.all_eq_true.1 (show List.all [.int .i64 ra, .int .i64 rb, .int .i64 rc] Value.oneCell' = true from rfl)) HKR2.out rfl ?_; intro wz hX hT hz; clear hz; have HBz := Aside0.mk (hT.below w (fun k hk => by rw [hk]; omega) HB2.out); have HKz := Aside0.mk hX; clear hX hT)
      refine bodyPost_ret (results_cell Tryz.results12 rfl HKz.out Tryz.underlying37 rfl (by kernel_rfl)) rfl ⟨?_, HBz.out⟩
      rw [HL.out]; rfl
end
end Go.Proofs.YtlhpbpkefkabgaaGreat.L1
