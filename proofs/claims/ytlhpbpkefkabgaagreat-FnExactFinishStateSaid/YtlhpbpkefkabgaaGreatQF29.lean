/- The law FnExactFinishState's own walk. -/
import Derived.Test.YtlhpbpkefkabgaaGreatQF28
import Derived.Test.YtlhpbpkefkabgaaGreatQF14
namespace Go.Proofs.YtlhpbpkefkabgaaGreat.L1
open Go.RowKit Go.Proofs.YtlhpbpkefkabgaaGreatW.PrintWords Go.Proofs.YtlhpbpkefkabgaaGreat.B
set_option linter.unusedVariables false
set_option linter.unusedSimpArgs false
attribute [local go_sem] mk_cell mk_frozen
/-- What the law's first region makes. -/
def FinG (c : Code) (x : Inst) (s : St) (r : Int × Int × Int) (i : Nat) (v : Value) (lo : Nat) (W : World) : Prop :=
  if i = 1 then ReadCode W v c else if i = 3 then ReadInst W v x else if i = 6 then ReadStC W v s else if i = 7 then v = verV r else BoxG #[.int .i64 0, .int .i64 0, .int .i64 0] 37 v lo W
theorem FinG.stays {c : Code} {x : Inst} {s : St} {r : Int × Int × Int} {i : Nat} {v : Value} {lo : Nat} {W W' : World} (hb : Below W.heap.size W W') (h : FinG c x s r i v lo W) : FinG c x s r i v lo W' := by
  unfold FinG at h ⊢
  split
  · rename_i e; rw [if_pos e] at h; exact h.below hb
  rename_i n1; rw [if_neg n1] at h
  split
  · rename_i e; rw [if_pos e] at h; exact h.below hb
  rename_i n2; rw [if_neg n2] at h
  split
  · rename_i e; rw [if_pos e] at h; exact h.below hb
  rename_i n3; rw [if_neg n3] at h
  split
  · rename_i e; rw [if_pos e] at h; exact h
  rename_i n4; rw [if_neg n4] at h
  exact ⟨h.1, blk_below h.2 hb⟩
theorem FinG.c {c : Code} {x : Inst} {s : St} {r : Int × Int × Int} {v : Value} {lo : Nat} {W : World} : FinG c x s r 1 v lo W ↔ ReadCode W v c := by unfold FinG; rw [if_pos rfl]
theorem FinG.i {c : Code} {x : Inst} {s : St} {r : Int × Int × Int} {v : Value} {lo : Nat} {W : World} : FinG c x s r 3 v lo W ↔ ReadInst W v x := by unfold FinG; rw [if_neg (by decide), if_pos rfl]
theorem FinG.s {c : Code} {x : Inst} {s : St} {r : Int × Int × Int} {v : Value} {lo : Nat} {W : World} : FinG c x s r 6 v lo W ↔ ReadStC W v s := by unfold FinG; rw [if_neg (by decide), if_neg (by decide), if_pos rfl]
theorem FinG.v {c : Code} {x : Inst} {s : St} {r : Int × Int × Int} {v : Value} {lo : Nat} {W : World} : FinG c x s r 7 v lo W ↔ v = verV r := by unfold FinG; rw [if_neg (by decide), if_neg (by decide), if_neg (by decide), if_pos rfl]
theorem FinG.b {c : Code} {x : Inst} {s : St} {r : Int × Int × Int} {v : Value} {lo : Nat} {W : World} : FinG c x s r 8 v lo W ↔ BoxG #[.int .i64 0, .int .i64 0, .int .i64 0] 37 v lo W := by unfold FinG; rw [if_neg (by decide), if_neg (by decide), if_neg (by decide), if_neg (by decide)]
section
variable (w : World)
set_option maxHeartbeats 1000000 in
theorem eqVerdict (a b c : Int) : Calls Tryz.prog 13 #[.agg #[.int .i64 a, .int .i64 b, .int .i64 c], .agg #[.int .i64 a, .int .i64 b, .int .i64 c]] w fun e w' => e = .returned (.bool true) ∧ Below w.heap.size w w' := by
  go_enter Tryz.func13, Tryz.ntmps13
  go_wp2
  go_ret
  exact ⟨rfl, below_alloc (below_alloc (Below.refl _ _) _) _⟩
set_option maxRecDepth 100000 in
set_option maxHeartbeats 8000000 in
theorem law_finishState (u v1 t : Value) (c : Code) (hc : ReadCode w u c) (x : Inst) (hx : ReadInst w v1 x) (v : Int) (s : St) (hs : ReadState w t s) : Calls Tryz.prog 3 #[u, v1, .int .i64 v, t] w fun e w' => e = .returned (.bool true) ∧ Below w.heap.size w w' := by
  have HRD := Aside0.mk (And.intro hc (And.intro hx hs))
  obtain ⟨A0, c0, A1, c1, A2, c2, rfl, a0, a1, a2⟩ := hc
  obtain ⟨B0, d0, B1, d1, B2, d2, rfl, b0, b1, b2⟩ := hx
  obtain ⟨S0, g0, S1, g1, S2, g2, rfl, s0, s1, s2⟩ := hs
  clear a0 a1 a2 b0 b1 b2 s0 s1 s2
  have HB0 := Aside0.mk (below_alloc (below_alloc (below_alloc (Below.refl w.heap.size w) (.cells #[.int .i64 c.regs, .int .i64 c.slots, .slice A0 c.b0.length c0, .slice A1 c.b1.length c1, .slice A2 c.b2.length c2] 24)) (.cells #[.slice B0 x.vs.length d0, .slice B1 x.qs.length d1, .slice B2 x.rs.length d2] 29)) (.cells #[.int .i64 s.pos, .int .i64 s.rule, .int .i64 s.node, .int .i64 s.time, .int .i64 s.dist, .int .i64 s.load, .slice S0 s.s0.length g0, .slice S1 s.s1.length g1, .slice S2 s.s2.length g2] 32))
  have h := al_new w (.cells #[.int .i64 c.regs, .int .i64 c.slots, .slice A0 c.b0.length c0, .slice A1 c.b1.length c1, .slice A2 c.b2.length c2] 24)
  replace h := blk_box h (.cells #[.slice B0 x.vs.length d0, .slice B1 x.qs.length d1, .slice B2 x.rs.length d2] 29)
  replace h := blk_box h (.cells #[.int .i64 s.pos, .int .i64 s.rule, .int .i64 s.node, .int .i64 s.time, .int .i64 s.dist, .int .i64 s.load, .slice S0 s.s0.length g0, .slice S1 s.s1.length g1, .slice S2 s.s2.length g2] 32)
  have HP0 := Aside0.mk h; clear h
  have h := al_new (w.alloc (.cells #[.int .i64 c.regs, .int .i64 c.slots, .slice A0 c.b0.length c0, .slice A1 c.b1.length c1, .slice A2 c.b2.length c2] 24)) (.cells #[.slice B0 x.vs.length d0, .slice B1 x.qs.length d1, .slice B2 x.rs.length d2] 29)
  simp only [al_size] at h
  replace h := blk_box h (.cells #[.int .i64 s.pos, .int .i64 s.rule, .int .i64 s.node, .int .i64 s.time, .int .i64 s.dist, .int .i64 s.load, .slice S0 s.s0.length g0, .slice S1 s.s1.length g1, .slice S2 s.s2.length g2] 32)
  have HQ0 := Aside0.mk h; clear h
  have h := al_new ((w.alloc (.cells #[.int .i64 c.regs, .int .i64 c.slots, .slice A0 c.b0.length c0, .slice A1 c.b1.length c1, .slice A2 c.b2.length c2] 24)).alloc (.cells #[.slice B0 x.vs.length d0, .slice B1 x.qs.length d1, .slice B2 x.rs.length d2] 29)) (.cells #[.int .i64 s.pos, .int .i64 s.rule, .int .i64 s.node, .int .i64 s.time, .int .i64 s.dist, .int .i64 s.load, .slice S0 s.s0.length g0, .slice S1 s.s1.length g1, .slice S2 s.s2.length g2] 32)
  simp only [al_size] at h
  have HR0 := Aside0.mk h; clear h
  have HZ0 := Aside0.mk (show (((w.alloc (.cells #[.int .i64 c.regs, .int .i64 c.slots, .slice A0 c.b0.length c0, .slice A1 c.b1.length c1, .slice A2 c.b2.length c2] 24)).alloc (.cells #[.slice B0 x.vs.length d0, .slice B1 x.qs.length d1, .slice B2 x.rs.length d2] 29)).alloc (.cells #[.int .i64 s.pos, .int .i64 s.rule, .int .i64 s.node, .int .i64 s.time, .int .i64 s.dist, .int .i64 s.load, .slice S0 s.s0.length g0, .slice S1 s.s1.length g1, .slice S2 s.s2.length g2] 32)).heap.size = w.heap.size + 3 by simp only [al_size])
  go_enter Tryz.func3, Tryz.ntmps3
  go_wp2_with fail
  go_at_call 5
  refine (szCode _ _ c 1048576 (by omega) (by omega) (HRD.out.1.below HB0.out)).mono ?_
  rintro e w1 ⟨⟨r1, rfl, hr⟩, hb⟩
  have HB1 := Aside0.mk (bel_call HB0.out hb); have HP1 := Aside0.mk (blk_below HP0.out hb); have HQ1 := Aside0.mk (blk_below HQ0.out hb); have HR1 := Aside0.mk (blk_below HR0.out hb); clear hb
  rcases hr with rfl | ⟨hp1, hq1, hs1⟩
  · go_wp2
    go_ret
    exact ⟨rfl, HB1.out⟩
  have HZ1 := Aside0.mk hs1; clear hs1
  have hd1 : decide (r1 < 0) = false := by simp; omega
  obtain ⟨p1, p2⟩ := lay (Below.refl _ _) HP1.out
  obtain ⟨q1, q2⟩ := lay (Below.refl _ _) HQ1.out
  obtain ⟨r1, r2⟩ := lay (Below.refl _ _) HR1.out
  go_wp2_with fail
  clear p1 p2 q1 q2 r1 r2
  go_at_call 6
  refine (szInst _ _ x r1 hp1 hq1 (HRD.out.2.1.below HB1.out)).mono ?_
  rintro e w2 ⟨⟨r2, rfl, hr⟩, hb⟩
  have HB2 := Aside0.mk (bel_call HB1.out hb); have HP2 := Aside0.mk (blk_below HP1.out hb); have HQ2 := Aside0.mk (blk_below HQ1.out hb); have HR2 := Aside0.mk (blk_below HR1.out hb); clear hb
  rcases hr with rfl | ⟨hp2, hq2, hs2⟩
  · go_wp2
    go_ret
    exact ⟨rfl, HB2.out⟩
  have HZ2 := Aside0.mk hs2; clear hs2
  have hd2 : decide (r2 < 0) = false := by simp; omega
  obtain ⟨p1, p2⟩ := lay (Below.refl _ _) HP2.out
  obtain ⟨q1, q2⟩ := lay (Below.refl _ _) HQ2.out
  obtain ⟨r1, r2⟩ := lay (Below.refl _ _) HR2.out
  go_wp2_with fail
  clear p1 p2 q1 q2 r1 r2
  go_at_call 7
  refine (szState _ _ s r2 hp2 (by omega) (HRD.out.2.2.below HB2.out)).mono ?_
  rintro e w3 ⟨⟨r3, rfl, hr⟩, hb⟩
  have HB3 := Aside0.mk (bel_call HB2.out hb); have HP3 := Aside0.mk (blk_below HP2.out hb); have HQ3 := Aside0.mk (blk_below HQ2.out hb); have HR3 := Aside0.mk (blk_below HR2.out hb); clear hb
  rcases hr with rfl | ⟨hp3, hq3, hs3⟩
  · go_wp2
    go_ret
    exact ⟨rfl, HB3.out⟩
  have HZ3 := Aside0.mk hs3; clear hs3
  have hd3 : decide (r3 < 0) = false := by simp; omega
  obtain ⟨p1, p2⟩ := lay (Below.refl _ _) HP3.out
  obtain ⟨q1, q2⟩ := lay (Below.refl _ _) HQ3.out
  obtain ⟨r1, r2⟩ := lay (Below.refl _ _) HR3.out
  go_wp2_with fail
  clear p1 p2 q1 q2 r1 r2
  refine Grow.wp_region_deps 9 ⟨[(1, 31), (3, 33), (6, 36), (7, 37), (8, 10)], (fun i z lo hi W => FinG c x s (finV c x v s) i z lo W), (fun i z lo hi W W' hb h => FinG.stays hb h)⟩ (by kernel_rfl) (by first | exact List.pairwise_singleton _ _ | simp) (by kernel_rfl) (by rfl) ?_
  dsimp only [List.take, List.drop]
  refine Grow.lexD_do _ (by rfl) (by rfl) (by intro W hj; obtain ⟨p1, p2⟩ := lay (Below.refl _ _) (blk_below HP3.out hj.out); obtain ⟨q1, q2⟩ := lay (Below.refl _ _) (blk_below HQ3.out hj.out); obtain ⟨r1, r2⟩ := lay (Below.refl _ _) (blk_below HR3.out hj.out); go_simp; first | exact Grow.UponB.val) ?_
  refine Grow.lexD_norm (fun K hK => ?_); go_simp; refine hK _ ?_; clear hK K
  refine Grow.lexD_make (by rfl) (by rfl) (by intro u lo hi W hj hd; obtain ⟨p1, p2⟩ := lay (Below.refl _ _) (blk_below HP3.out hj.out); obtain ⟨q1, q2⟩ := lay (Below.refl _ _) (blk_below HQ3.out hj.out); obtain ⟨r1, r2⟩ := lay (Below.refl _ _) (blk_below HR3.out hj.out); dsimp only [Grow.fillM, List.foldl]; go_simp; have cc := toCode W _ c (HRD.out.1.below (bel_call HB3.out hj.out)) HZ1.out; refine Grow.UponB.made ?_; with_reducible refine Calls.mono cc ?_; rintro e w' ⟨z, rfl, ho, hb⟩; exact ⟨_, rfl, (FinG.c (lo := W.heap.size)).2 ho.read, hb⟩) ?_
  refine Grow.lexD_norm (fun K hK => ?_); go_simp; refine hK _ ?_; clear hK K
  refine Grow.lexD_do _ (by rfl) (by rfl) (by intro W hj; obtain ⟨p1, p2⟩ := lay (Below.refl _ _) (blk_below HP3.out hj.out); obtain ⟨q1, q2⟩ := lay (Below.refl _ _) (blk_below HQ3.out hj.out); obtain ⟨r1, r2⟩ := lay (Below.refl _ _) (blk_below HR3.out hj.out); go_simp; first | exact Grow.UponB.val) ?_
  refine Grow.lexD_norm (fun K hK => ?_); go_simp; refine hK _ ?_; clear hK K
  refine Grow.lexD_make (by rfl) (by rfl) (by intro u lo hi W hj hd; obtain ⟨p1, p2⟩ := lay (Below.refl _ _) (blk_below HP3.out hj.out); obtain ⟨q1, q2⟩ := lay (Below.refl _ _) (blk_below HQ3.out hj.out); obtain ⟨r1, r2⟩ := lay (Below.refl _ _) (blk_below HR3.out hj.out); dsimp only [Grow.fillM, List.foldl]; go_simp; have cc := toInst W _ x (HRD.out.2.1.below (bel_call HB3.out hj.out)) HZ2.out; refine Grow.UponB.made ?_; with_reducible refine Calls.mono cc ?_; rintro e w' ⟨z, rfl, ho, hb⟩; exact ⟨_, rfl, (FinG.i (lo := W.heap.size)).2 ho.read, hb⟩) ?_
  refine Grow.lexD_norm (fun K hK => ?_); go_simp; refine hK _ ?_; clear hK K
  refine Grow.lexD_do _ (by rfl) (by rfl) (by intro W hj; obtain ⟨p1, p2⟩ := lay (Below.refl _ _) (blk_below HP3.out hj.out); obtain ⟨q1, q2⟩ := lay (Below.refl _ _) (blk_below HQ3.out hj.out); obtain ⟨r1, r2⟩ := lay (Below.refl _ _) (blk_below HR3.out hj.out); go_simp; first | exact Grow.UponB.val) ?_
  refine Grow.lexD_norm (fun K hK => ?_); go_simp; refine hK _ ?_; clear hK K
  refine Grow.lexD_do _ (by rfl) (by rfl) (by intro W hj; obtain ⟨p1, p2⟩ := lay (Below.refl _ _) (blk_below HP3.out hj.out); obtain ⟨q1, q2⟩ := lay (Below.refl _ _) (blk_below HQ3.out hj.out); obtain ⟨r1, r2⟩ := lay (Below.refl _ _) (blk_below HR3.out hj.out); go_simp; first | exact Grow.UponB.val) ?_
  refine Grow.lexD_norm (fun K hK => ?_); go_simp; refine hK _ ?_; clear hK K
  refine Grow.lexD_make (by rfl) (by rfl) (by intro u lo hi W hj hd; obtain ⟨p1, p2⟩ := lay (Below.refl _ _) (blk_below HP3.out hj.out); obtain ⟨q1, q2⟩ := lay (Below.refl _ _) (blk_below HQ3.out hj.out); obtain ⟨r1, r2⟩ := lay (Below.refl _ _) (blk_below HR3.out hj.out); dsimp only [Grow.fillM, List.foldl]; go_simp; have cc := toState W _ s (HRD.out.2.2.below (bel_call HB3.out hj.out)) HZ3.out; refine Grow.UponB.made ?_; with_reducible refine Calls.mono cc ?_; rintro e w' ⟨z, rfl, ho, hb⟩; exact ⟨_, rfl, (FinG.s (lo := W.heap.size)).2 ho.readC, hb⟩) ?_
  refine Grow.lexD_norm (fun K hK => ?_); go_simp; refine hK _ ?_; clear hK K
  refine Grow.lexD_make (by rfl) (by rfl) (by intro u lo hi W hj hd; obtain ⟨p1, p2⟩ := lay (Below.refl _ _) (blk_below HP3.out hj.out); obtain ⟨q1, q2⟩ := lay (Below.refl _ _) (blk_below HQ3.out hj.out); obtain ⟨r1, r2⟩ := lay (Below.refl _ _) (blk_below HR3.out hj.out); have k1 : ReadCode W (u 1) c := FinG.c.1 (show FinG c x s (finV c x v s) 1 (u 1) (lo 1) W from hd 1 rfl (by kernel_rfl)); have k3 : ReadInst W (u 3) x := FinG.i.1 (show FinG c x s (finV c x v s) 3 (u 3) (lo 3) W from hd 3 rfl (by kernel_rfl)); have k6 : ReadStC W (u 6) s := FinG.s.1 (show FinG c x s (finV c x v s) 6 (u 6) (lo 6) W from hd 6 rfl (by kernel_rfl)); have KK := Aside0.mk (And.intro k1 (And.intro k3 k6)); clear k1 k3 k6; dsimp only [Grow.fillM, List.foldl]; go_simp; have cc := spec_FinishState W _ _ _ c KK.out.1 x KK.out.2.1 v s KK.out.2.2 HZ3.out; refine Grow.UponB.made ?_; with_reducible refine Calls.mono cc ?_; rintro e w' ⟨rfl, hb⟩; exact ⟨_, rfl, (FinG.v (lo := W.heap.size)).2 rfl, hb⟩) ?_
  refine Grow.lexD_norm (fun K hK => ?_); go_simp; refine hK _ ?_; clear hK K
  refine Grow.lexD_make (by rfl) (by rfl) (by intro u lo hi W hj hd; obtain ⟨p1, p2⟩ := lay (Below.refl _ _) (blk_below HP3.out hj.out); obtain ⟨q1, q2⟩ := lay (Below.refl _ _) (blk_below HQ3.out hj.out); obtain ⟨r1, r2⟩ := lay (Below.refl _ _) (blk_below HR3.out hj.out); dsimp only [Grow.fillM, List.foldl]; go_simp; refine Grow.UponB.boxR ?_; exact (FinG.b (lo := W.heap.size)).2 ⟨rfl, al_new W _⟩) ?_
  refine Grow.lexD_norm (fun K hK => ?_); go_simp; refine hK _ ?_; clear hK K
  refine Grow.lexD_nil (fun u lo hi w4 hj hG hord => ?_)
  have h7 : u 7 = verV (finV c x v s) := FinG.v.1 (show FinG c x s (finV c x v s) 7 (u 7) (lo 7) w4 from (hG 7 rfl).1)
  have h8 : u 8 = .pointer (some ⟨lo 8, 0, none⟩) ∧ w4.heap[lo 8]? = some (.cells #[.int .i64 0, .int .i64 0, .int .i64 0] 37 (0, 0)) := FinG.b.1 (show FinG c x s (finV c x v s) 8 (u 8) (lo 8) w4 from (hG 8 rfl).1)
  have hlo := (hG 8 rfl).2.1
  obtain ⟨h8, hz8⟩ := h8
  clear hG hord
  dsimp only [List.foldl]
  rw [h7, h8]
  generalize lo 8 = vb at *
  clear h7 h8
  have hb := hj.out; clear hj
  have HB4 := Aside0.mk (bel_call HB3.out hb); have HP4 := Aside0.mk (blk_below HP3.out hb); have HQ4 := Aside0.mk (blk_below HQ3.out hb); have HR4 := Aside0.mk (blk_below HR3.out hb); clear hb
  generalize hfv : finV c x v s = rr at *
  obtain ⟨ra, rb, rc⟩ := rr
  have HFV := Aside0.mk hfv; clear hfv
  unfold verV; dsimp only
  have hvb : w.heap.size ≤ vb := Nat.le_trans HB3.out.size hlo
  have HVB := Aside0.mk hvb; have HV4 := Aside0.mk hz8; have HSZ4 := Aside0.mk (Nat.le_refl w4.heap.size); clear hvb hz8 hlo
  generalize u 1 = q1; generalize u 3 = q3; generalize u 6 = q6
  obtain ⟨p1, p2⟩ := lay (Below.refl _ _) HP4.out
  obtain ⟨q1, q2⟩ := lay (Below.refl _ _) HQ4.out
  obtain ⟨r1, r2⟩ := lay (Below.refl _ _) HR4.out
  obtain ⟨v1, v2⟩ := lay (Below.refl _ _) HV4.out
  go_wp2_with ((with_reducible refine gate_store (t := 37) (p := 10) rfl ?_); refine wpList_putAll rfl rfl _ _ _ rfl (g := vb) [.int .i64 ra, .int .i64 rb, .int .i64 rc] rfl rfl (by kernel_rfl) (List.all_eq_true.1 (show List.all [.int .i64 ra, .int .i64 rb, .int .i64 rc] Value.oneCell' = true from rfl)) HV4.out rfl ?_; intro w5 hX hT hz; clear hz; clear p1 p2 q1 q2 r1 r2 v1 v2; (try simp only [List.setIfInBounds_toArray, List.set_cons_zero, List.set_cons_succ] at hX); have HB5 := Aside0.mk (hT.below w (fun k hk => by rw [hk]; exact HVB.out) HB4.out); have HP5 := Aside0.mk (tch_keep hT HV4.out HP4.out (by decide)); have HQ5 := Aside0.mk (tch_keep hT HV4.out HQ4.out (by decide)); have HR5 := Aside0.mk (tch_keep hT HV4.out HR4.out (by decide)); have HSZ5 := Aside0.mk (Nat.le_trans HSZ4.out hT.size); have HV5 := Aside0.mk hX; clear hX hT; obtain ⟨p1, p2⟩ := lay (Below.refl _ _) HP5.out; obtain ⟨q1, q2⟩ := lay (Below.refl _ _) HQ5.out; obtain ⟨r1, r2⟩ := lay (Below.refl _ _) HR5.out; obtain ⟨v1, v2⟩ := lay (Below.refl _ _) HV5.out)
  clear p1 p2 q1 q2 r1 r2 v1 v2
  go_at_call 9
  refine (toCode _ _ c (HRD.out.1.below HB5.out) HZ1.out).mono ?_
  rintro e w6 ⟨u6, rfl, ho, hb⟩
  have HB6 := Aside0.mk (bel_call HB5.out hb); have HP6 := Aside0.mk (blk_below HP5.out hb); have HQ6 := Aside0.mk (blk_below HQ5.out hb); have HR6 := Aside0.mk (blk_below HR5.out hb); have HV6 := Aside0.mk (blk_below HV5.out hb); have HSZ6 := Aside0.mk (Nat.le_trans HSZ5.out hb.size); clear hb
  obtain ⟨E0, e0, E1, e1, E2, e2, rfl, t0, t1, t2⟩ := ho.read
  clear ho
  have HXC6 := Aside0.mk (show ReadCode w6 (.agg #[.int .i64 c.regs, .int .i64 c.slots, .slice E0 c.b0.length e0, .slice E1 c.b1.length e1, .slice E2 c.b2.length e2]) c from ⟨_, _, _, _, _, _, rfl, t0, t1, t2⟩); clear t0 t1 t2
  obtain ⟨p1, p2⟩ := lay (Below.refl _ _) (blk_box HP6.out (.cells #[.int .i64 c.regs, .int .i64 c.slots, .slice E0 c.b0.length e0, .slice E1 c.b1.length e1, .slice E2 c.b2.length e2] 41))
  obtain ⟨q1, q2⟩ := lay (Below.refl _ _) (blk_box HQ6.out (.cells #[.int .i64 c.regs, .int .i64 c.slots, .slice E0 c.b0.length e0, .slice E1 c.b1.length e1, .slice E2 c.b2.length e2] 41))
  obtain ⟨r1, r2⟩ := lay (Below.refl _ _) (blk_box HR6.out (.cells #[.int .i64 c.regs, .int .i64 c.slots, .slice E0 c.b0.length e0, .slice E1 c.b1.length e1, .slice E2 c.b2.length e2] 41))
  obtain ⟨v1, v2⟩ := lay (Below.refl _ _) (blk_box HV6.out (.cells #[.int .i64 c.regs, .int .i64 c.slots, .slice E0 c.b0.length e0, .slice E1 c.b1.length e1, .slice E2 c.b2.length e2] 41))
  go_wp2_with fail
  clear p1 p2 q1 q2 r1 r2 v1 v2
  have HB7 := Aside0.mk (bel_box HB6.out (.cells #[.int .i64 c.regs, .int .i64 c.slots, .slice E0 c.b0.length e0, .slice E1 c.b1.length e1, .slice E2 c.b2.length e2] 41)) ; have HP7 := Aside0.mk (blk_box HP6.out (.cells #[.int .i64 c.regs, .int .i64 c.slots, .slice E0 c.b0.length e0, .slice E1 c.b1.length e1, .slice E2 c.b2.length e2] 41)) ; have HQ7 := Aside0.mk (blk_box HQ6.out (.cells #[.int .i64 c.regs, .int .i64 c.slots, .slice E0 c.b0.length e0, .slice E1 c.b1.length e1, .slice E2 c.b2.length e2] 41)) ; have HR7 := Aside0.mk (blk_box HR6.out (.cells #[.int .i64 c.regs, .int .i64 c.slots, .slice E0 c.b0.length e0, .slice E1 c.b1.length e1, .slice E2 c.b2.length e2] 41)) ; have HV7 := Aside0.mk (blk_box HV6.out (.cells #[.int .i64 c.regs, .int .i64 c.slots, .slice E0 c.b0.length e0, .slice E1 c.b1.length e1, .slice E2 c.b2.length e2] 41)) ; have HC7 := Aside0.mk (al_new w6 (.cells #[.int .i64 c.regs, .int .i64 c.slots, .slice E0 c.b0.length e0, .slice E1 c.b1.length e1, .slice E2 c.b2.length e2] 41)) ; have HSZ7 := Aside0.mk (Nat.le_refl (w6.alloc (.cells #[.int .i64 c.regs, .int .i64 c.slots, .slice E0 c.b0.length e0, .slice E1 c.b1.length e1, .slice E2 c.b2.length e2] 41)).heap.size) ; have HXC7 := Aside0.mk (HXC6.out.below (below_alloc (Below.refl w6.heap.size w6) (.cells #[.int .i64 c.regs, .int .i64 c.slots, .slice E0 c.b0.length e0, .slice E1 c.b1.length e1, .slice E2 c.b2.length e2] 41)))
  go_at_call 10
  refine (toInst _ _ x (HRD.out.2.1.below HB7.out) HZ2.out).mono ?_
  rintro e w8 ⟨u8, rfl, ho, hb⟩
  have HB8 := Aside0.mk (bel_call HB7.out hb); have HP8 := Aside0.mk (blk_below HP7.out hb); have HQ8 := Aside0.mk (blk_below HQ7.out hb); have HR8 := Aside0.mk (blk_below HR7.out hb); have HV8 := Aside0.mk (blk_below HV7.out hb); have HC8 := Aside0.mk (blk_below HC7.out hb); have HSZ8 := Aside0.mk (Nat.le_trans HSZ7.out hb.size); have HXC8 := Aside0.mk (HXC7.out.below hb); clear hb
  obtain ⟨F0, f0, F1, f1, F2, f2, rfl, t0, t1, t2⟩ := ho.read
  clear ho
  have HXI8 := Aside0.mk (show ReadInst w8 (.agg #[.slice F0 x.vs.length f0, .slice F1 x.qs.length f1, .slice F2 x.rs.length f2]) x from ⟨_, _, _, _, _, _, rfl, t0, t1, t2⟩); clear t0 t1 t2
  obtain ⟨p1, p2⟩ := lay (Below.refl _ _) (blk_box HP8.out (.cells #[.slice F0 x.vs.length f0, .slice F1 x.qs.length f1, .slice F2 x.rs.length f2] 47))
  obtain ⟨q1, q2⟩ := lay (Below.refl _ _) (blk_box HQ8.out (.cells #[.slice F0 x.vs.length f0, .slice F1 x.qs.length f1, .slice F2 x.rs.length f2] 47))
  obtain ⟨r1, r2⟩ := lay (Below.refl _ _) (blk_box HR8.out (.cells #[.slice F0 x.vs.length f0, .slice F1 x.qs.length f1, .slice F2 x.rs.length f2] 47))
  obtain ⟨v1, v2⟩ := lay (Below.refl _ _) (blk_box HV8.out (.cells #[.slice F0 x.vs.length f0, .slice F1 x.qs.length f1, .slice F2 x.rs.length f2] 47))
  obtain ⟨c1, c2⟩ := lay (Below.refl _ _) (blk_box HC8.out (.cells #[.slice F0 x.vs.length f0, .slice F1 x.qs.length f1, .slice F2 x.rs.length f2] 47))
  go_wp2_with fail
  clear p1 p2 q1 q2 r1 r2 v1 v2 c1 c2
  have HB9 := Aside0.mk (bel_box HB8.out (.cells #[.slice F0 x.vs.length f0, .slice F1 x.qs.length f1, .slice F2 x.rs.length f2] 47)) ; have HP9 := Aside0.mk (blk_box HP8.out (.cells #[.slice F0 x.vs.length f0, .slice F1 x.qs.length f1, .slice F2 x.rs.length f2] 47)) ; have HQ9 := Aside0.mk (blk_box HQ8.out (.cells #[.slice F0 x.vs.length f0, .slice F1 x.qs.length f1, .slice F2 x.rs.length f2] 47)) ; have HR9 := Aside0.mk (blk_box HR8.out (.cells #[.slice F0 x.vs.length f0, .slice F1 x.qs.length f1, .slice F2 x.rs.length f2] 47)) ; have HV9 := Aside0.mk (blk_box HV8.out (.cells #[.slice F0 x.vs.length f0, .slice F1 x.qs.length f1, .slice F2 x.rs.length f2] 47)) ; have HC9 := Aside0.mk (blk_box HC8.out (.cells #[.slice F0 x.vs.length f0, .slice F1 x.qs.length f1, .slice F2 x.rs.length f2] 47)) ; have HI9 := Aside0.mk (al_new w8 (.cells #[.slice F0 x.vs.length f0, .slice F1 x.qs.length f1, .slice F2 x.rs.length f2] 47)) ; have HSZ9 := Aside0.mk (Nat.le_refl (w8.alloc (.cells #[.slice F0 x.vs.length f0, .slice F1 x.qs.length f1, .slice F2 x.rs.length f2] 47)).heap.size) ; have HXC9 := Aside0.mk (HXC8.out.below (below_alloc (Below.refl w8.heap.size w8) (.cells #[.slice F0 x.vs.length f0, .slice F1 x.qs.length f1, .slice F2 x.rs.length f2] 47))) ; have HXI9 := Aside0.mk (HXI8.out.below (below_alloc (Below.refl w8.heap.size w8) (.cells #[.slice F0 x.vs.length f0, .slice F1 x.qs.length f1, .slice F2 x.rs.length f2] 47)))
  go_at_call 11
  refine (toState _ _ s (HRD.out.2.2.below HB9.out) HZ3.out).mono ?_
  rintro e w10 ⟨u10, rfl, ho, hb⟩
  have HB10 := Aside0.mk (bel_call HB9.out hb); have HP10 := Aside0.mk (blk_below HP9.out hb); have HQ10 := Aside0.mk (blk_below HQ9.out hb); have HR10 := Aside0.mk (blk_below HR9.out hb); have HV10 := Aside0.mk (blk_below HV9.out hb); have HC10 := Aside0.mk (blk_below HC9.out hb); have HI10 := Aside0.mk (blk_below HI9.out hb); have HSZ10 := Aside0.mk (Nat.le_trans HSZ9.out hb.size); have HXC10 := Aside0.mk (HXC9.out.below hb); have HXI10 := Aside0.mk (HXI9.out.below hb); clear hb
  obtain ⟨K0, k0, K1, k1, K2, k2, rfl, t0, t1, t2⟩ := ho.read
  clear ho
  have HXS10 := Aside0.mk (show ReadState w10 (.agg #[.int .i64 s.pos, .int .i64 s.rule, .int .i64 s.node, .int .i64 s.time, .int .i64 s.dist, .int .i64 s.load, .slice K0 s.s0.length k0, .slice K1 s.s1.length k1, .slice K2 s.s2.length k2]) s from ⟨_, _, _, _, _, _, rfl, t0, t1, t2⟩); clear t0 t1 t2
  obtain ⟨p1, p2⟩ := lay (Below.refl _ _) (blk_box HP10.out (.cells #[.int .i64 s.pos, .int .i64 s.rule, .int .i64 s.node, .int .i64 s.time, .int .i64 s.dist, .int .i64 s.load, .slice K0 s.s0.length k0, .slice K1 s.s1.length k1, .slice K2 s.s2.length k2] 49))
  obtain ⟨q1, q2⟩ := lay (Below.refl _ _) (blk_box HQ10.out (.cells #[.int .i64 s.pos, .int .i64 s.rule, .int .i64 s.node, .int .i64 s.time, .int .i64 s.dist, .int .i64 s.load, .slice K0 s.s0.length k0, .slice K1 s.s1.length k1, .slice K2 s.s2.length k2] 49))
  obtain ⟨r1, r2⟩ := lay (Below.refl _ _) (blk_box HR10.out (.cells #[.int .i64 s.pos, .int .i64 s.rule, .int .i64 s.node, .int .i64 s.time, .int .i64 s.dist, .int .i64 s.load, .slice K0 s.s0.length k0, .slice K1 s.s1.length k1, .slice K2 s.s2.length k2] 49))
  obtain ⟨v1, v2⟩ := lay (Below.refl _ _) (blk_box HV10.out (.cells #[.int .i64 s.pos, .int .i64 s.rule, .int .i64 s.node, .int .i64 s.time, .int .i64 s.dist, .int .i64 s.load, .slice K0 s.s0.length k0, .slice K1 s.s1.length k1, .slice K2 s.s2.length k2] 49))
  obtain ⟨c1, c2⟩ := lay (Below.refl _ _) (blk_box HC10.out (.cells #[.int .i64 s.pos, .int .i64 s.rule, .int .i64 s.node, .int .i64 s.time, .int .i64 s.dist, .int .i64 s.load, .slice K0 s.s0.length k0, .slice K1 s.s1.length k1, .slice K2 s.s2.length k2] 49))
  obtain ⟨i1, i2⟩ := lay (Below.refl _ _) (blk_box HI10.out (.cells #[.int .i64 s.pos, .int .i64 s.rule, .int .i64 s.node, .int .i64 s.time, .int .i64 s.dist, .int .i64 s.load, .slice K0 s.s0.length k0, .slice K1 s.s1.length k1, .slice K2 s.s2.length k2] 49))
  go_wp2_with fail
  clear p1 p2 q1 q2 r1 r2 v1 v2 c1 c2 i1 i2
  have HB11 := Aside0.mk (bel_box HB10.out (.cells #[.int .i64 s.pos, .int .i64 s.rule, .int .i64 s.node, .int .i64 s.time, .int .i64 s.dist, .int .i64 s.load, .slice K0 s.s0.length k0, .slice K1 s.s1.length k1, .slice K2 s.s2.length k2] 49)) ; have HP11 := Aside0.mk (blk_box HP10.out (.cells #[.int .i64 s.pos, .int .i64 s.rule, .int .i64 s.node, .int .i64 s.time, .int .i64 s.dist, .int .i64 s.load, .slice K0 s.s0.length k0, .slice K1 s.s1.length k1, .slice K2 s.s2.length k2] 49)) ; have HQ11 := Aside0.mk (blk_box HQ10.out (.cells #[.int .i64 s.pos, .int .i64 s.rule, .int .i64 s.node, .int .i64 s.time, .int .i64 s.dist, .int .i64 s.load, .slice K0 s.s0.length k0, .slice K1 s.s1.length k1, .slice K2 s.s2.length k2] 49)) ; have HR11 := Aside0.mk (blk_box HR10.out (.cells #[.int .i64 s.pos, .int .i64 s.rule, .int .i64 s.node, .int .i64 s.time, .int .i64 s.dist, .int .i64 s.load, .slice K0 s.s0.length k0, .slice K1 s.s1.length k1, .slice K2 s.s2.length k2] 49)) ; have HV11 := Aside0.mk (blk_box HV10.out (.cells #[.int .i64 s.pos, .int .i64 s.rule, .int .i64 s.node, .int .i64 s.time, .int .i64 s.dist, .int .i64 s.load, .slice K0 s.s0.length k0, .slice K1 s.s1.length k1, .slice K2 s.s2.length k2] 49)) ; have HC11 := Aside0.mk (blk_box HC10.out (.cells #[.int .i64 s.pos, .int .i64 s.rule, .int .i64 s.node, .int .i64 s.time, .int .i64 s.dist, .int .i64 s.load, .slice K0 s.s0.length k0, .slice K1 s.s1.length k1, .slice K2 s.s2.length k2] 49)) ; have HI11 := Aside0.mk (blk_box HI10.out (.cells #[.int .i64 s.pos, .int .i64 s.rule, .int .i64 s.node, .int .i64 s.time, .int .i64 s.dist, .int .i64 s.load, .slice K0 s.s0.length k0, .slice K1 s.s1.length k1, .slice K2 s.s2.length k2] 49)) ; have HS11 := Aside0.mk (al_new w10 (.cells #[.int .i64 s.pos, .int .i64 s.rule, .int .i64 s.node, .int .i64 s.time, .int .i64 s.dist, .int .i64 s.load, .slice K0 s.s0.length k0, .slice K1 s.s1.length k1, .slice K2 s.s2.length k2] 49)) ; have HSZ11 := Aside0.mk (Nat.le_refl (w10.alloc (.cells #[.int .i64 s.pos, .int .i64 s.rule, .int .i64 s.node, .int .i64 s.time, .int .i64 s.dist, .int .i64 s.load, .slice K0 s.s0.length k0, .slice K1 s.s1.length k1, .slice K2 s.s2.length k2] 49)).heap.size) ; have HXC11 := Aside0.mk (HXC10.out.below (below_alloc (Below.refl w10.heap.size w10) (.cells #[.int .i64 s.pos, .int .i64 s.rule, .int .i64 s.node, .int .i64 s.time, .int .i64 s.dist, .int .i64 s.load, .slice K0 s.s0.length k0, .slice K1 s.s1.length k1, .slice K2 s.s2.length k2] 49))) ; have HXI11 := Aside0.mk (HXI10.out.below (below_alloc (Below.refl w10.heap.size w10) (.cells #[.int .i64 s.pos, .int .i64 s.rule, .int .i64 s.node, .int .i64 s.time, .int .i64 s.dist, .int .i64 s.load, .slice K0 s.s0.length k0, .slice K1 s.s1.length k1, .slice K2 s.s2.length k2] 49))) ; have HXS11 := Aside0.mk (HXS10.out.below (below_alloc (Below.refl w10.heap.size w10) (.cells #[.int .i64 s.pos, .int .i64 s.rule, .int .i64 s.node, .int .i64 s.time, .int .i64 s.dist, .int .i64 s.load, .slice K0 s.s0.length k0, .slice K1 s.s1.length k1, .slice K2 s.s2.length k2] 49)))
  go_at_call 12
  refine (impl_FinishState _ _ _ _ c HXC11.out x HXI11.out v s HXS11.out HZ3.out).mono ?_
  rw [HFV.out]; unfold verV; dsimp only
  rintro e w12 ⟨rfl, hb⟩
  have HB12 := Aside0.mk (bel_call HB11.out hb); have HP12 := Aside0.mk (blk_below HP11.out hb); have HQ12 := Aside0.mk (blk_below HQ11.out hb); have HR12 := Aside0.mk (blk_below HR11.out hb); have HV12 := Aside0.mk (blk_below HV11.out hb); have HC12 := Aside0.mk (blk_below HC11.out hb); have HI12 := Aside0.mk (blk_below HI11.out hb); have HS12 := Aside0.mk (blk_below HS11.out hb); have HSZ12 := Aside0.mk (Nat.le_trans HSZ11.out hb.size); have HXC12 := Aside0.mk (HXC11.out.below hb); have HXI12 := Aside0.mk (HXI11.out.below hb); have HXS12 := Aside0.mk (HXS11.out.below hb); clear hb
  obtain ⟨p1, p2⟩ := lay (Below.refl _ _) (blk_box HP12.out (.cells #[.int .i64 ra, .int .i64 rb, .int .i64 rc] 37))
  obtain ⟨q1, q2⟩ := lay (Below.refl _ _) (blk_box HQ12.out (.cells #[.int .i64 ra, .int .i64 rb, .int .i64 rc] 37))
  obtain ⟨r1, r2⟩ := lay (Below.refl _ _) (blk_box HR12.out (.cells #[.int .i64 ra, .int .i64 rb, .int .i64 rc] 37))
  obtain ⟨v1, v2⟩ := lay (Below.refl _ _) (blk_box HV12.out (.cells #[.int .i64 ra, .int .i64 rb, .int .i64 rc] 37))
  obtain ⟨c1, c2⟩ := lay (Below.refl _ _) (blk_box HC12.out (.cells #[.int .i64 ra, .int .i64 rb, .int .i64 rc] 37))
  obtain ⟨i1, i2⟩ := lay (Below.refl _ _) (blk_box HI12.out (.cells #[.int .i64 ra, .int .i64 rb, .int .i64 rc] 37))
  obtain ⟨s1, s2⟩ := lay (Below.refl _ _) (blk_box HS12.out (.cells #[.int .i64 ra, .int .i64 rb, .int .i64 rc] 37))
  go_wp2_with fail
  clear p1 p2 q1 q2 r1 r2 v1 v2 c1 c2 i1 i2 s1 s2
  have HB13 := Aside0.mk (bel_box HB12.out (.cells #[.int .i64 ra, .int .i64 rb, .int .i64 rc] 37)) ; have HP13 := Aside0.mk (blk_box HP12.out (.cells #[.int .i64 ra, .int .i64 rb, .int .i64 rc] 37)) ; have HQ13 := Aside0.mk (blk_box HQ12.out (.cells #[.int .i64 ra, .int .i64 rb, .int .i64 rc] 37)) ; have HR13 := Aside0.mk (blk_box HR12.out (.cells #[.int .i64 ra, .int .i64 rb, .int .i64 rc] 37)) ; have HV13 := Aside0.mk (blk_box HV12.out (.cells #[.int .i64 ra, .int .i64 rb, .int .i64 rc] 37)) ; have HC13 := Aside0.mk (blk_box HC12.out (.cells #[.int .i64 ra, .int .i64 rb, .int .i64 rc] 37)) ; have HI13 := Aside0.mk (blk_box HI12.out (.cells #[.int .i64 ra, .int .i64 rb, .int .i64 rc] 37)) ; have HS13 := Aside0.mk (blk_box HS12.out (.cells #[.int .i64 ra, .int .i64 rb, .int .i64 rc] 37)) ; have HU13 := Aside0.mk (al_new w12 (.cells #[.int .i64 ra, .int .i64 rb, .int .i64 rc] 37)) ; have HSZ13 := Aside0.mk (Nat.le_refl (w12.alloc (.cells #[.int .i64 ra, .int .i64 rb, .int .i64 rc] 37)).heap.size) ; have HXC13 := Aside0.mk (HXC12.out.below (below_alloc (Below.refl w12.heap.size w12) (.cells #[.int .i64 ra, .int .i64 rb, .int .i64 rc] 37))) ; have HXI13 := Aside0.mk (HXI12.out.below (below_alloc (Below.refl w12.heap.size w12) (.cells #[.int .i64 ra, .int .i64 rb, .int .i64 rc] 37))) ; have HXS13 := Aside0.mk (HXS12.out.below (below_alloc (Below.refl w12.heap.size w12) (.cells #[.int .i64 ra, .int .i64 rb, .int .i64 rc] 37)))
  go_at_call 13
  refine (eqVerdict _ ra rb rc).mono ?_
  rintro e w14 ⟨rfl, hb⟩
  have HB14 := Aside0.mk (bel_call HB13.out hb); have HP14 := Aside0.mk (blk_below HP13.out hb); have HQ14 := Aside0.mk (blk_below HQ13.out hb); have HR14 := Aside0.mk (blk_below HR13.out hb); have HV14 := Aside0.mk (blk_below HV13.out hb); have HC14 := Aside0.mk (blk_below HC13.out hb); have HI14 := Aside0.mk (blk_below HI13.out hb); have HS14 := Aside0.mk (blk_below HS13.out hb); have HU14 := Aside0.mk (blk_below HU13.out hb); have HSZ14 := Aside0.mk (Nat.le_trans HSZ13.out hb.size); have HXC14 := Aside0.mk (HXC13.out.below hb); have HXI14 := Aside0.mk (HXI13.out.below hb); have HXS14 := Aside0.mk (HXS13.out.below hb); clear hb
  obtain ⟨p1, p2⟩ := lay (Below.refl _ _) HP14.out
  obtain ⟨q1, q2⟩ := lay (Below.refl _ _) HQ14.out
  obtain ⟨r1, r2⟩ := lay (Below.refl _ _) HR14.out
  obtain ⟨v1, v2⟩ := lay (Below.refl _ _) HV14.out
  obtain ⟨c1, c2⟩ := lay (Below.refl _ _) HC14.out
  obtain ⟨i1, i2⟩ := lay (Below.refl _ _) HI14.out
  obtain ⟨s1, s2⟩ := lay (Below.refl _ _) HS14.out
  obtain ⟨u1, u2⟩ := lay (Below.refl _ _) HU14.out
  go_wp2_with fail
  clear p1 p2 q1 q2 r1 r2 v1 v2 c1 c2 i1 i2 s1 s2 u1 u2
  go_region_held3 (fun w' => w'.cell? ⟨w.heap.size, 0, none⟩ = some (.int .i64 c.regs) ∧ w'.cell? ⟨w.heap.size, 1, none⟩ = some (.int .i64 c.slots) ∧ w'.cell? ⟨w.heap.size, 2, none⟩ = some (.slice A0 c.b0.length c0) ∧ w'.cell? ⟨w.heap.size, 3, none⟩ = some (.slice A1 c.b1.length c1) ∧ w'.cell? ⟨w.heap.size, 4, none⟩ = some (.slice A2 c.b2.length c2) ∧ w'.cell? ⟨w6.heap.size, 0, none⟩ = some (.int .i64 c.regs) ∧ w'.cell? ⟨w6.heap.size, 1, none⟩ = some (.int .i64 c.slots) ∧ w'.cell? ⟨w6.heap.size, 2, none⟩ = some (.slice E0 c.b0.length e0) ∧ w'.cell? ⟨w6.heap.size, 3, none⟩ = some (.slice E1 c.b1.length e1) ∧ w'.cell? ⟨w6.heap.size, 4, none⟩ = some (.slice E2 c.b2.length e2) ∧ Below w14.heap.size w14 w')
    (first | exact ⟨blk_cell HP14.out 0, blk_cell HP14.out 1, blk_cell HP14.out 2, blk_cell HP14.out 3, blk_cell HP14.out 4, blk_cell HC14.out 0, blk_cell HC14.out 1, blk_cell HC14.out 2, blk_cell HC14.out 3, blk_cell HC14.out 4, below_drew (Below.refl _ _)⟩ | exact keepC10 (by assumption) hb2 | exact keepC10 (by assumption) hb3)
    (first
      | (go_at_call 9; refine Calls.mono (toCode _ _ c ?_ HZ1.out) ?_; exact HRD.out.1.below (bel_call HB14.out (belC10 (by assumption))); rintro e y1 ⟨z1, rfl, ho, hb2⟩; replace ho := ho.read)
      | (go_at_call 14; refine (eqCode _ _ _ c (HXC14.out.below (belC10 (by assumption))) ho HZ1.out).mono ?_; rintro e w15 ⟨rfl, hb3⟩))
  rename_i hb
  replace hb := belC10 hb
  have HB15 := Aside0.mk (bel_call HB14.out hb); have HP15 := Aside0.mk (blk_below HP14.out hb); have HQ15 := Aside0.mk (blk_below HQ14.out hb); have HR15 := Aside0.mk (blk_below HR14.out hb); have HV15 := Aside0.mk (blk_below HV14.out hb); have HC15 := Aside0.mk (blk_below HC14.out hb); have HI15 := Aside0.mk (blk_below HI14.out hb); have HS15 := Aside0.mk (blk_below HS14.out hb); have HU15 := Aside0.mk (blk_below HU14.out hb); have HSZ15 := Aside0.mk (Nat.le_trans HSZ14.out hb.size); have HXC15 := Aside0.mk (HXC14.out.below hb); have HXI15 := Aside0.mk (HXI14.out.below hb); have HXS15 := Aside0.mk (HXS14.out.below hb); clear hb
  go_wp2_with fail
  go_region_held3 (fun w' => w'.cell? ⟨w.heap.size + 1, 0, none⟩ = some (.slice B0 x.vs.length d0) ∧ w'.cell? ⟨w.heap.size + 1, 1, none⟩ = some (.slice B1 x.qs.length d1) ∧ w'.cell? ⟨w.heap.size + 1, 2, none⟩ = some (.slice B2 x.rs.length d2) ∧ w'.cell? ⟨w8.heap.size, 0, none⟩ = some (.slice F0 x.vs.length f0) ∧ w'.cell? ⟨w8.heap.size, 1, none⟩ = some (.slice F1 x.qs.length f1) ∧ w'.cell? ⟨w8.heap.size, 2, none⟩ = some (.slice F2 x.rs.length f2) ∧ Below w15.heap.size w15 w')
    (first | exact ⟨blk_cell HQ15.out 0, blk_cell HQ15.out 1, blk_cell HQ15.out 2, blk_cell HI15.out 0, blk_cell HI15.out 1, blk_cell HI15.out 2, below_drew (Below.refl _ _)⟩ | exact keepC6 (by assumption) hb2 | exact keepC6 (by assumption) hb3)
    (first
      | (go_at_call 10; refine Calls.mono (toInst _ _ x ?_ HZ2.out) ?_; exact HRD.out.2.1.below (bel_call HB15.out (belC6 (by assumption))); rintro e y1 ⟨z1, rfl, ho, hb2⟩; replace ho := ho.read)
      | (go_at_call 15; refine (eqInst _ _ _ x (HXI15.out.below (belC6 (by assumption))) ho HZ2.out).mono ?_; rintro e w16 ⟨rfl, hb3⟩))
  rename_i hb
  replace hb := belC6 hb
  have HB16 := Aside0.mk (bel_call HB15.out hb); have HP16 := Aside0.mk (blk_below HP15.out hb); have HQ16 := Aside0.mk (blk_below HQ15.out hb); have HR16 := Aside0.mk (blk_below HR15.out hb); have HV16 := Aside0.mk (blk_below HV15.out hb); have HC16 := Aside0.mk (blk_below HC15.out hb); have HI16 := Aside0.mk (blk_below HI15.out hb); have HS16 := Aside0.mk (blk_below HS15.out hb); have HU16 := Aside0.mk (blk_below HU15.out hb); have HSZ16 := Aside0.mk (Nat.le_trans HSZ15.out hb.size); have HXC16 := Aside0.mk (HXC15.out.below hb); have HXI16 := Aside0.mk (HXI15.out.below hb); have HXS16 := Aside0.mk (HXS15.out.below hb); clear hb
  go_wp2_with fail
  go_region_held3 (fun w' => w'.cell? ⟨w.heap.size + 1 + 1, 0, none⟩ = some (.int .i64 s.pos) ∧ w'.cell? ⟨w.heap.size + 1 + 1, 1, none⟩ = some (.int .i64 s.rule) ∧ w'.cell? ⟨w.heap.size + 1 + 1, 2, none⟩ = some (.int .i64 s.node) ∧ w'.cell? ⟨w.heap.size + 1 + 1, 3, none⟩ = some (.int .i64 s.time) ∧ w'.cell? ⟨w.heap.size + 1 + 1, 4, none⟩ = some (.int .i64 s.dist) ∧ w'.cell? ⟨w.heap.size + 1 + 1, 5, none⟩ = some (.int .i64 s.load) ∧ w'.cell? ⟨w.heap.size + 1 + 1, 6, none⟩ = some (.slice S0 s.s0.length g0) ∧ w'.cell? ⟨w.heap.size + 1 + 1, 7, none⟩ = some (.slice S1 s.s1.length g1) ∧ w'.cell? ⟨w.heap.size + 1 + 1, 8, none⟩ = some (.slice S2 s.s2.length g2) ∧ w'.cell? ⟨w10.heap.size, 0, none⟩ = some (.int .i64 s.pos) ∧ w'.cell? ⟨w10.heap.size, 1, none⟩ = some (.int .i64 s.rule) ∧ w'.cell? ⟨w10.heap.size, 2, none⟩ = some (.int .i64 s.node) ∧ w'.cell? ⟨w10.heap.size, 3, none⟩ = some (.int .i64 s.time) ∧ w'.cell? ⟨w10.heap.size, 4, none⟩ = some (.int .i64 s.dist) ∧ w'.cell? ⟨w10.heap.size, 5, none⟩ = some (.int .i64 s.load) ∧ w'.cell? ⟨w10.heap.size, 6, none⟩ = some (.slice K0 s.s0.length k0) ∧ w'.cell? ⟨w10.heap.size, 7, none⟩ = some (.slice K1 s.s1.length k1) ∧ w'.cell? ⟨w10.heap.size, 8, none⟩ = some (.slice K2 s.s2.length k2) ∧ Below w16.heap.size w16 w')
    (first | exact ⟨blk_cell HR16.out 0, blk_cell HR16.out 1, blk_cell HR16.out 2, blk_cell HR16.out 3, blk_cell HR16.out 4, blk_cell HR16.out 5, blk_cell HR16.out 6, blk_cell HR16.out 7, blk_cell HR16.out 8, blk_cell HS16.out 0, blk_cell HS16.out 1, blk_cell HS16.out 2, blk_cell HS16.out 3, blk_cell HS16.out 4, blk_cell HS16.out 5, blk_cell HS16.out 6, blk_cell HS16.out 7, blk_cell HS16.out 8, below_drew (Below.refl _ _)⟩ | exact keepC18 (by assumption) hb2 | exact keepC18 (by assumption) hb3)
    (first
      | (go_at_call 11; refine Calls.mono (toState _ _ s ?_ HZ3.out) ?_; exact HRD.out.2.2.below (bel_call HB16.out (belC18 (by assumption))); rintro e y1 ⟨z1, rfl, ho, hb2⟩; replace ho := ho.read)
      | (go_at_call 16; refine (eqState _ _ _ s (HXS16.out.below (belC18 (by assumption))) ho HZ3.out).mono ?_; rintro e w17 ⟨rfl, hb3⟩))
  rename_i hb
  replace hb := belC18 hb
  have HB17 := Aside0.mk (bel_call HB16.out hb); have HP17 := Aside0.mk (blk_below HP16.out hb); have HQ17 := Aside0.mk (blk_below HQ16.out hb); have HR17 := Aside0.mk (blk_below HR16.out hb); have HV17 := Aside0.mk (blk_below HV16.out hb); have HC17 := Aside0.mk (blk_below HC16.out hb); have HI17 := Aside0.mk (blk_below HI16.out hb); have HS17 := Aside0.mk (blk_below HS16.out hb); have HU17 := Aside0.mk (blk_below HU16.out hb); have HSZ17 := Aside0.mk (Nat.le_trans HSZ16.out hb.size); have HXC17 := Aside0.mk (HXC16.out.below hb); have HXI17 := Aside0.mk (HXI16.out.below hb); have HXS17 := Aside0.mk (HXS16.out.below hb); clear hb
  go_wp2
  go_ret
  exact ⟨rfl, HB17.out⟩
end
end Go.Proofs.YtlhpbpkefkabgaaGreat.L1
