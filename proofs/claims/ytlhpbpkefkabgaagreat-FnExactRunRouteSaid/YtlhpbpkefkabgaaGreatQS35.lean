/- The law FnExactRunRoute's own walk. -/
import Derived.Test.YtlhpbpkefkabgaaGreatQS29
import Derived.Test.YtlhpbpkefkabgaaGreatQS34
import Derived.Test.YtlhpbpkefkabgaaGreatQS12
namespace Go.Proofs.YtlhpbpkefkabgaaGreat.L1
open Go.RowKit Go.Proofs.YtlhpbpkefkabgaaGreatW.PrintWords Go.Proofs.YtlhpbpkefkabgaaGreat.B
set_option linter.unusedVariables false
set_option linter.unusedSimpArgs false
attribute [local go_sem] mk_cell mk_frozen
def CodeP (c : Code) (v : Value) (lo : Nat) (W : World) : Prop := ReadCode W v c
def InstP (x : Inst) (v : Value) (lo : Nat) (W : World) : Prop := ReadInst W v x
def IntsP (xs : List Int) (v : Value) (lo : Nat) (W : World) : Prop := ∃ R rc, v = .slice R xs.length rc ∧ xs.length ≤ rc ∧ kInt.C W R xs.length xs
def VerP (r : Int × Int × Int) (v : Value) (lo : Nat) (W : World) : Prop := v = verV r
theorem CodeP.stays (c : Code) : Stays (CodeP c) := fun v lo W W' hb h => ReadCode.below h hb
theorem InstP.stays (x : Inst) : Stays (InstP x) := fun v lo W W' hb h => ReadInst.below h hb
theorem IntsP.stays (xs : List Int) : Stays (IntsP xs) := fun v lo W W' hb h => by
  obtain ⟨R, rc, e, hc, h⟩ := h
  exact ⟨R, rc, e, hc, Kd.C_below h hb⟩
theorem VerP.stays (r : Int × Int × Int) : Stays (VerP r) := fun v lo W W' hb h => h
section
variable (w : World)
set_option maxHeartbeats 1000000 in
theorem eqVerdict3 (a b c : Int) : Calls Tryz.prog 13 #[.agg #[.int .i64 a, .int .i64 b, .int .i64 c], .agg #[.int .i64 a, .int .i64 b, .int .i64 c]] w fun e w' => e = .returned (.bool true) ∧ Below w.heap.size w w' := by
  go_enter Tryz.func13, Tryz.ntmps13
  go_wp2
  go_ret
  exact ⟨rfl, bA (bA (Below.refl _ _) _) _⟩
set_option maxRecDepth 100000 in
set_option maxHeartbeats 8000000 in
theorem law_runRoute (u v1 r : Value) (c : Code) (hc : ReadCode w u c) (x : Inst) (hx : ReadInst w v1 x) (v : Int) (xs : List Int) (hs : ReadInts w r xs) : Calls Tryz.prog 4 #[u, v1, .int .i64 v, r] w fun e w' => e = .returned (.bool true) ∧ Below w.heap.size w w' := by
  have HRD := sA (And.intro hc hx)
  obtain ⟨A0, c0, A1, c1, A2, c2, rfl, a0, a1, a2⟩ := hc
  obtain ⟨B0, d0, B1, d1, B2, d2, rfl, b0, b1, b2⟩ := hx
  obtain ⟨R, rc, rfl, hR⟩ := hs
  have hml := hR.2.1; have HQ := sA hR; clear hR
  clear a0 a1 a2 b0 b1 b2
  obtain ⟨HB0, HP0, HQ0, HZ0⟩ := opens2 w (.cells #[.int .i64 c.regs, .int .i64 c.slots, .slice A0 c.b0.length c0, .slice A1 c.b1.length c1, .slice A2 c.b2.length c2] 24) (.cells #[.slice B0 x.vs.length d0, .slice B1 x.qs.length d1, .slice B2 x.rs.length d2] 29)
  have HGP := sA (show w.heap.size ≤ w.heap.size from Nat.le_add_right _ 0)
  have HGQ := sA (show w.heap.size ≤ w.heap.size + 1 from Nat.le_add_right _ 1)
  have HSZ0 := sA (Nat.le_refl ((w.alloc (.cells #[.int .i64 c.regs, .int .i64 c.slots, .slice A0 c.b0.length c0, .slice A1 c.b1.length c1, .slice A2 c.b2.length c2] 24)).alloc (.cells #[.slice B0 x.vs.length d0, .slice B1 x.qs.length d1, .slice B2 x.rs.length d2] 29)).heap.size)
  by_cases hl : 1048576 < xs.length
  · have p0 : decide ((1048576 : Int) < (xs.length : Int)) = true := by simp; omega
    go_enter Tryz.func4, Tryz.ntmps4
    go_wp2
    go_ret
    exact ⟨rfl, HB0.out⟩
  have hxl : xs.length ≤ 1048576 := by omega
  have p0 : decide ((1048576 : Int) < (xs.length : Int)) = false := by simp; omega
  go_enter Tryz.func4, Tryz.ntmps4
  go_wp2_with fail
  go_at_call 5
  refine (szCode _ _ c 1048576 (by omega) (by omega) (HRD.out.1.below HB0.out)).mono ?_
  rintro e w1 ⟨⟨r1, rfl, hr⟩, hb⟩
  have HB1 := sA (bC HB0.out hb); have HP1 := sA (bB HP0.out hb); have HQ1 := sA (bB HQ0.out hb); have HSZ1 := sA (Nat.le_trans HSZ0.out hb.size); clear hb
  rcases hr with rfl | ⟨hp1, hq1, hs1⟩
  · go_wp2
    go_ret
    exact ⟨rfl, HB1.out⟩
  have HZ1 := sA hs1; clear hs1
  have hd1 : decide (r1 < 0) = false := by simp; omega
  obtain ⟨p1, p2⟩ := lay0 HP1.out
  obtain ⟨q1, q2⟩ := lay0 HQ1.out
  go_wp2_with fail
  clear p1 p2 q1 q2
  go_at_call 6
  refine (szInst _ _ x r1 hp1 hq1 (HRD.out.2.below HB1.out)).mono ?_
  rintro e w2 ⟨⟨r2, rfl, hr⟩, hb⟩
  have HB2 := sA (bC HB1.out hb); have HP2 := sA (bB HP1.out hb); have HQ2 := sA (bB HQ1.out hb); have HSZ2 := sA (Nat.le_trans HSZ1.out hb.size); clear hb
  rcases hr with rfl | ⟨hp2, hq2, hs2⟩
  · go_wp2
    go_ret
    exact ⟨rfl, HB2.out⟩
  have HZ2 := sA hs2; clear hs2
  have hd2 : decide (r2 < 0) = false := by simp; omega
  obtain ⟨p1, p2⟩ := lay0 HP2.out
  obtain ⟨q1, q2⟩ := lay0 HQ2.out
  go_wp2_with fail
  clear p1 p2 q1 q2
  refine Grow.wp_region_deps 9 ⟨[(1, 29), (3, 31), (6, 34), (7, 35), (8, 10)], fun i zv lo hi W => GAt [(1, CodeP c), (3, InstP x), (6, IntsP xs), (7, VerP (runV c x v xs)), (8, BoxG #[.int .i64 0, .int .i64 0, .int .i64 0] 37)] i zv lo W, fun i zv lo hi W W' hb h => GAt.stays (l := [(1, CodeP c), (3, InstP x), (6, IntsP xs), (7, VerP (runV c x v xs)), (8, BoxG #[.int .i64 0, .int .i64 0, .int .i64 0] 37)]) ⟨CodeP.stays _, InstP.stays _, IntsP.stays _, VerP.stays _, BoxG.stays _ _, trivial⟩ i zv lo hi W W' hb h⟩ (by kernel_rfl) (show List.Pairwise (fun p q : Nat × Tmp => p.1 ≠ q.1 ∧ p.2 ≠ q.2) [(1, 29), (3, 31), (6, 34), (7, 35), (8, 10)] from by decide) (by kernel_rfl) (by rfl) ?_
  dsimp only [List.take, List.drop]
  refine Grow.lexD_do _ (by rfl) (by rfl) (by intro W hj; obtain ⟨p1, p2⟩ := lay hj.out HP2.out; obtain ⟨q1, q2⟩ := lay hj.out HQ2.out; go_simp; first | exact Grow.UponB.val) ?_
  refine Grow.lexD_norm (fun K hK => ?_); go_simp; refine hK _ ?_; clear hK K
  refine Grow.lexD_make (by rfl) (by rfl) (by intro u lo hi W hj hd; have hlow : w2.heap.size ≤ W.heap.size := hj.out.size; obtain ⟨p1, p2⟩ := lay hj.out HP2.out; obtain ⟨q1, q2⟩ := lay hj.out HQ2.out; dsimp only [Grow.fillM, List.foldl]; go_simp; have cc := toCode W _ c (HRD.out.1.below (bC HB2.out hj.out)) HZ1.out; refine Grow.UponB.made ?_; (with_reducible refine Calls.mono cc ?_); rintro e w' ⟨z, rfl, ho, hb⟩; exact ⟨_, rfl, GAt.mk (P := CodeP c) (ho.read) (by intro p hp he; simp only [List.mem_cons, List.not_mem_nil, or_false] at hp; rcases hp with rfl | rfl | rfl | rfl | rfl <;> first | rfl | exact absurd he (by simp)), hb⟩) ?_
  refine Grow.lexD_norm (fun K hK => ?_); go_simp; refine hK _ ?_; clear hK K
  refine Grow.lexD_do _ (by rfl) (by rfl) (by intro W hj; obtain ⟨p1, p2⟩ := lay hj.out HP2.out; obtain ⟨q1, q2⟩ := lay hj.out HQ2.out; go_simp; first | exact Grow.UponB.val) ?_
  refine Grow.lexD_norm (fun K hK => ?_); go_simp; refine hK _ ?_; clear hK K
  refine Grow.lexD_make (by rfl) (by rfl) (by intro u lo hi W hj hd; have hlow : w2.heap.size ≤ W.heap.size := hj.out.size; obtain ⟨p1, p2⟩ := lay hj.out HP2.out; obtain ⟨q1, q2⟩ := lay hj.out HQ2.out; dsimp only [Grow.fillM, List.foldl]; go_simp; have cc := toInst W _ x (HRD.out.2.below (bC HB2.out hj.out)) HZ2.out; refine Grow.UponB.made ?_; (with_reducible refine Calls.mono cc ?_); rintro e w' ⟨z, rfl, ho, hb⟩; exact ⟨_, rfl, GAt.mk (P := InstP x) (ho.read) (by intro p hp he; simp only [List.mem_cons, List.not_mem_nil, or_false] at hp; rcases hp with rfl | rfl | rfl | rfl | rfl <;> first | rfl | exact absurd he (by simp)), hb⟩) ?_
  refine Grow.lexD_norm (fun K hK => ?_); go_simp; refine hK _ ?_; clear hK K
  repeat (refine Grow.lexD_do _ (by rfl) (by rfl) (by intro W hj; obtain ⟨p1, p2⟩ := lay hj.out HP2.out; obtain ⟨q1, q2⟩ := lay hj.out HQ2.out; go_simp; first | exact Grow.UponB.val) ?_; refine Grow.lexD_norm (fun K hK => ?_); go_simp; refine hK _ ?_; clear hK K)
  refine Grow.lexD_make (by rfl) (by rfl) (by intro u lo hi W hj hd; have hlow : w2.heap.size ≤ W.heap.size := hj.out.size; obtain ⟨p1, p2⟩ := lay hj.out HP2.out; obtain ⟨q1, q2⟩ := lay hj.out HQ2.out; dsimp only [Grow.fillM, List.foldl]; go_simp; have cc := toInt64S W R rc xs (Kd.C_below HQ.out (bC HB2.out hj.out)) hxl; refine Grow.UponB.made ?_; (with_reducible refine Calls.mono cc ?_); rintro e w' ⟨z, rfl, ho, hb⟩; exact ⟨_, rfl, GAt.mk (P := IntsP xs) (Kd.R_reads ho) (by intro p hp he; simp only [List.mem_cons, List.not_mem_nil, or_false] at hp; rcases hp with rfl | rfl | rfl | rfl | rfl <;> first | rfl | exact absurd he (by simp)), hb⟩) ?_
  refine Grow.lexD_norm (fun K hK => ?_); go_simp; refine hK _ ?_; clear hK K
  refine Grow.lexD_make (by rfl) (by rfl) (by intro u lo hi W hj hd; have hlow : w2.heap.size ≤ W.heap.size := hj.out.size; obtain ⟨p1, p2⟩ := lay hj.out HP2.out; obtain ⟨q1, q2⟩ := lay hj.out HQ2.out; have k1 : ReadCode W (u 1) c := ((hd 1 rfl (by kernel_rfl)).at (P := CodeP c) (by simp)); have k3 : ReadInst W (u 3) x := ((hd 3 rfl (by kernel_rfl)).at (P := InstP x) (by simp)); obtain ⟨R6, rc6, hu6, hc6, hC6⟩ := ((hd 6 rfl (by kernel_rfl)).at (P := IntsP xs) (by simp)); have KK := sA (And.intro k1 (And.intro k3 (And.intro hc6 hC6))); clear k1 k3 hc6 hC6; dsimp only [Grow.fillM, List.foldl]; go_simp; have cc := spec_RunRoute W _ _ c KK.out.1 x KK.out.2.1 v R6 rc6 xs KK.out.2.2.2 KK.out.2.2.1; refine Grow.UponB.made ?_; (with_reducible refine Calls.mono cc ?_); rintro e w' ⟨rfl, hb⟩; exact ⟨_, rfl, GAt.mk (P := VerP (runV c x v xs)) (rfl) (by intro p hp he; simp only [List.mem_cons, List.not_mem_nil, or_false] at hp; rcases hp with rfl | rfl | rfl | rfl | rfl <;> first | rfl | exact absurd he (by simp)), hb⟩) ?_
  refine Grow.lexD_norm (fun K hK => ?_); go_simp; refine hK _ ?_; clear hK K
  refine Grow.lexD_make (by rfl) (by rfl) (by intro u lo hi W hj hd; have hlow : w2.heap.size ≤ W.heap.size := hj.out.size; obtain ⟨p1, p2⟩ := lay hj.out HP2.out; obtain ⟨q1, q2⟩ := lay hj.out HQ2.out; dsimp only [Grow.fillM, List.foldl]; go_simp; refine Grow.UponB.boxR ?_; exact GAt.mk (P := BoxG #[.int .i64 0, .int .i64 0, .int .i64 0] 37) (⟨rfl, al_new W _⟩) (by intro p hp he; simp only [List.mem_cons, List.not_mem_nil, or_false] at hp; rcases hp with rfl | rfl | rfl | rfl | rfl <;> first | rfl | exact absurd he (by simp))) ?_
  refine Grow.lexD_norm (fun K hK => ?_); go_simp; refine hK _ ?_; clear hK K
  refine Grow.lexD_nil (fun u lo hi w3 hj hG hord => ?_)
  have h7 : u 7 = verV (runV c x v xs) := (show VerP (runV c x v xs) (u 7) (lo 7) w3 from ((hG 7 rfl).1).at (by simp))
  obtain ⟨h8, hz8⟩ := (show BoxG #[.int .i64 0, .int .i64 0, .int .i64 0] 37 (u 8) (lo 8) w3 from ((hG 8 rfl).1).at (by simp))
  have hlo := (hG 8 rfl).2.1
  clear hG hord
  dsimp only [List.foldl]
  rw [h7, h8]
  generalize lo 8 = vb at *
  clear h7 h8
  generalize hfv : runV c x v xs = rr at *
  obtain ⟨ra, rb, rc'⟩ := rr
  have HFV := sA hfv; clear hfv
  unfold verV; dsimp only
  have hvb : w.heap.size ≤ vb := Nat.le_trans HB2.out.size hlo
  have HVB := sA hvb; have HV3 := sA hz8; clear hvb hz8 hlo
  refine wpl_norm (fun K hK => ?_); go_simp; refine hK _ ?_; clear hK K
  have hb := hj.out; clear hj
  have HB3 := sA (bC HB2.out hb); have HP3 := sA (bB HP2.out hb); have HQ3 := sA (bB HQ2.out hb); have HSZ3 := sA (Nat.le_trans HSZ2.out hb.size); clear hb
  generalize u 1 = q1; generalize u 3 = q3; generalize u 6 = q6
  obtain ⟨p1, p2⟩ := lay0 HP3.out
  obtain ⟨q1, q2⟩ := lay0 HQ3.out
  obtain ⟨v1, v2⟩ := lay0 HV3.out
  go_wp2_with ((with_reducible refine gate_store (t := 37) (p := 10) rfl ?_); refine wpList_putAll rfl rfl _ _ _ rfl (g := vb) [.int .i64 ra, .int .i64 rb, .int .i64 rc'] rfl rfl (by kernel_rfl) (one_all rfl) HV3.out rfl ?_; intro w4 hX hT hz; clear hz; clear p1 p2 q1 q2 v1 v2; (try simp only [List.setIfInBounds_toArray, List.set_cons_zero, List.set_cons_succ] at hX); have HB4 := sA (hT.below w (fun k hk => by rw [hk]; exact HVB.out) HB3.out); have HP4 := sA (tK hT HV3.out HP3.out (by decide)); have HQ4 := sA (tK hT HV3.out HQ3.out (by decide)); have HSZ4 := sA (Nat.le_trans HSZ3.out hT.size); have HV4 := sA hX; clear hX hT; obtain ⟨p1, p2⟩ := lay0 HP4.out; obtain ⟨q1, q2⟩ := lay0 HQ4.out; obtain ⟨v1, v2⟩ := lay0 HV4.out)
  clear p1 p2 q1 q2 v1 v2
  go_at_call 9
  refine (toCode _ _ c (HRD.out.1.below HB4.out) HZ1.out).mono ?_
  rintro e w5 ⟨u5, rfl, ho, hb⟩
  have HB5 := sA (bC HB4.out hb); have HP5 := sA (bB HP4.out hb); have HQ5 := sA (bB HQ4.out hb); have HV5 := sA (bB HV4.out hb); have HSZ5 := sA (Nat.le_trans HSZ4.out hb.size); clear hb
  obtain ⟨E0, e0, E1, e1, E2, e2, rfl, t0, t1, t2⟩ := ho.read
  clear ho
  have HXC5 := sA (show ReadCode w5 (.agg #[.int .i64 c.regs, .int .i64 c.slots, .slice E0 c.b0.length e0, .slice E1 c.b1.length e1, .slice E2 c.b2.length e2]) c from ⟨_, _, _, _, _, _, rfl, t0, t1, t2⟩); clear t0 t1 t2
  obtain ⟨p1, p2⟩ := lay0 (blk_box HP5.out (.cells #[.int .i64 c.regs, .int .i64 c.slots, .slice E0 c.b0.length e0, .slice E1 c.b1.length e1, .slice E2 c.b2.length e2] 41))
  obtain ⟨q1, q2⟩ := lay0 (blk_box HQ5.out (.cells #[.int .i64 c.regs, .int .i64 c.slots, .slice E0 c.b0.length e0, .slice E1 c.b1.length e1, .slice E2 c.b2.length e2] 41))
  obtain ⟨v1, v2⟩ := lay0 (blk_box HV5.out (.cells #[.int .i64 c.regs, .int .i64 c.slots, .slice E0 c.b0.length e0, .slice E1 c.b1.length e1, .slice E2 c.b2.length e2] 41))
  go_wp2_with fail
  clear p1 p2 q1 q2 v1 v2
  have HB6 := sA (bel_box HB5.out (.cells #[.int .i64 c.regs, .int .i64 c.slots, .slice E0 c.b0.length e0, .slice E1 c.b1.length e1, .slice E2 c.b2.length e2] 41)) ; have HP6 := sA (blk_box HP5.out (.cells #[.int .i64 c.regs, .int .i64 c.slots, .slice E0 c.b0.length e0, .slice E1 c.b1.length e1, .slice E2 c.b2.length e2] 41)) ; have HQ6 := sA (blk_box HQ5.out (.cells #[.int .i64 c.regs, .int .i64 c.slots, .slice E0 c.b0.length e0, .slice E1 c.b1.length e1, .slice E2 c.b2.length e2] 41)) ; have HV6 := sA (blk_box HV5.out (.cells #[.int .i64 c.regs, .int .i64 c.slots, .slice E0 c.b0.length e0, .slice E1 c.b1.length e1, .slice E2 c.b2.length e2] 41)) ; have HC6 := sA (al_new w5 (.cells #[.int .i64 c.regs, .int .i64 c.slots, .slice E0 c.b0.length e0, .slice E1 c.b1.length e1, .slice E2 c.b2.length e2] 41)) ; have HSZ6 := sA (Nat.le_refl (w5.alloc (.cells #[.int .i64 c.regs, .int .i64 c.slots, .slice E0 c.b0.length e0, .slice E1 c.b1.length e1, .slice E2 c.b2.length e2] 41)).heap.size) ; have HXC6 := sA (HXC5.out.below (bA (Below.refl w5.heap.size w5) (.cells #[.int .i64 c.regs, .int .i64 c.slots, .slice E0 c.b0.length e0, .slice E1 c.b1.length e1, .slice E2 c.b2.length e2] 41)))
  go_at_call 10
  refine (toInst _ _ x (HRD.out.2.below HB6.out) HZ2.out).mono ?_
  rintro e w7 ⟨u7, rfl, ho, hb⟩
  have HB7 := sA (bC HB6.out hb); have HP7 := sA (bB HP6.out hb); have HQ7 := sA (bB HQ6.out hb); have HV7 := sA (bB HV6.out hb); have HC7 := sA (bB HC6.out hb); have HSZ7 := sA (Nat.le_trans HSZ6.out hb.size); have HXC7 := sA (HXC6.out.below hb); clear hb
  obtain ⟨F0, f0, F1, f1, F2, f2, rfl, t0, t1, t2⟩ := ho.read
  clear ho
  have HXI7 := sA (show ReadInst w7 (.agg #[.slice F0 x.vs.length f0, .slice F1 x.qs.length f1, .slice F2 x.rs.length f2]) x from ⟨_, _, _, _, _, _, rfl, t0, t1, t2⟩); clear t0 t1 t2
  obtain ⟨p1, p2⟩ := lay0 (blk_box HP7.out (.cells #[.slice F0 x.vs.length f0, .slice F1 x.qs.length f1, .slice F2 x.rs.length f2] 47))
  obtain ⟨q1, q2⟩ := lay0 (blk_box HQ7.out (.cells #[.slice F0 x.vs.length f0, .slice F1 x.qs.length f1, .slice F2 x.rs.length f2] 47))
  obtain ⟨v1, v2⟩ := lay0 (blk_box HV7.out (.cells #[.slice F0 x.vs.length f0, .slice F1 x.qs.length f1, .slice F2 x.rs.length f2] 47))
  obtain ⟨c1, c2⟩ := lay0 (blk_box HC7.out (.cells #[.slice F0 x.vs.length f0, .slice F1 x.qs.length f1, .slice F2 x.rs.length f2] 47))
  go_wp2_with fail
  clear p1 p2 q1 q2 v1 v2 c1 c2
  have HB8 := sA (bel_box HB7.out (.cells #[.slice F0 x.vs.length f0, .slice F1 x.qs.length f1, .slice F2 x.rs.length f2] 47)) ; have HP8 := sA (blk_box HP7.out (.cells #[.slice F0 x.vs.length f0, .slice F1 x.qs.length f1, .slice F2 x.rs.length f2] 47)) ; have HQ8 := sA (blk_box HQ7.out (.cells #[.slice F0 x.vs.length f0, .slice F1 x.qs.length f1, .slice F2 x.rs.length f2] 47)) ; have HV8 := sA (blk_box HV7.out (.cells #[.slice F0 x.vs.length f0, .slice F1 x.qs.length f1, .slice F2 x.rs.length f2] 47)) ; have HC8 := sA (blk_box HC7.out (.cells #[.slice F0 x.vs.length f0, .slice F1 x.qs.length f1, .slice F2 x.rs.length f2] 47)) ; have HI8 := sA (al_new w7 (.cells #[.slice F0 x.vs.length f0, .slice F1 x.qs.length f1, .slice F2 x.rs.length f2] 47)) ; have HSZ8 := sA (Nat.le_refl (w7.alloc (.cells #[.slice F0 x.vs.length f0, .slice F1 x.qs.length f1, .slice F2 x.rs.length f2] 47)).heap.size) ; have HXC8 := sA (HXC7.out.below (bA (Below.refl w7.heap.size w7) (.cells #[.slice F0 x.vs.length f0, .slice F1 x.qs.length f1, .slice F2 x.rs.length f2] 47))) ; have HXI8 := sA (HXI7.out.below (bA (Below.refl w7.heap.size w7) (.cells #[.slice F0 x.vs.length f0, .slice F1 x.qs.length f1, .slice F2 x.rs.length f2] 47)))
  go_at_call 18
  refine (toInt64S _ R rc xs (Kd.C_below HQ.out HB8.out) hxl).mono ?_
  rintro e w9 ⟨u9, rfl, ho, hb⟩
  have HB9 := sA (bC HB8.out hb); have HP9 := sA (bB HP8.out hb); have HQ9 := sA (bB HQ8.out hb); have HV9 := sA (bB HV8.out hb); have HC9 := sA (bB HC8.out hb); have HI9 := sA (bB HI8.out hb); have HSZ9 := sA (Nat.le_trans HSZ8.out hb.size); have HXC9 := sA (HXC8.out.below hb); have HXI9 := sA (HXI8.out.below hb); clear hb
  obtain ⟨R2, rc2, rfl, _, t0⟩ := Kd.R_reads ho
  clear ho
  have HXR9 := sA t0; clear t0
  obtain ⟨p1, p2⟩ := lay0 HP9.out
  obtain ⟨q1, q2⟩ := lay0 HQ9.out
  obtain ⟨v1, v2⟩ := lay0 HV9.out
  obtain ⟨c1, c2⟩ := lay0 HC9.out
  obtain ⟨i1, i2⟩ := lay0 HI9.out
  go_wp2_with fail
  clear p1 p2 q1 q2 v1 v2 c1 c2 i1 i2
  go_at_call 19
  refine (impl_RunRoute _ _ _ c HXC9.out x HXI9.out v R2 rc2 xs HXR9.out).mono ?_
  rw [HFV.out]; unfold verV; dsimp only
  rintro e w10 ⟨rfl, hb⟩
  have HB10 := sA (bC HB9.out hb); have HP10 := sA (bB HP9.out hb); have HQ10 := sA (bB HQ9.out hb); have HV10 := sA (bB HV9.out hb); have HC10 := sA (bB HC9.out hb); have HI10 := sA (bB HI9.out hb); have HSZ10 := sA (Nat.le_trans HSZ9.out hb.size); have HXC10 := sA (HXC9.out.below hb); have HXI10 := sA (HXI9.out.below hb); have HXR10 := sA (Kd.C_below HXR9.out hb); clear hb
  obtain ⟨p1, p2⟩ := lay0 (blk_box HP10.out (.cells #[.int .i64 ra, .int .i64 rb, .int .i64 rc'] 37))
  obtain ⟨q1, q2⟩ := lay0 (blk_box HQ10.out (.cells #[.int .i64 ra, .int .i64 rb, .int .i64 rc'] 37))
  obtain ⟨v1, v2⟩ := lay0 (blk_box HV10.out (.cells #[.int .i64 ra, .int .i64 rb, .int .i64 rc'] 37))
  obtain ⟨c1, c2⟩ := lay0 (blk_box HC10.out (.cells #[.int .i64 ra, .int .i64 rb, .int .i64 rc'] 37))
  obtain ⟨i1, i2⟩ := lay0 (blk_box HI10.out (.cells #[.int .i64 ra, .int .i64 rb, .int .i64 rc'] 37))
  go_wp2_with fail
  clear p1 p2 q1 q2 v1 v2 c1 c2 i1 i2
  have HB11 := sA (bel_box HB10.out (.cells #[.int .i64 ra, .int .i64 rb, .int .i64 rc'] 37)) ; have HP11 := sA (blk_box HP10.out (.cells #[.int .i64 ra, .int .i64 rb, .int .i64 rc'] 37)) ; have HQ11 := sA (blk_box HQ10.out (.cells #[.int .i64 ra, .int .i64 rb, .int .i64 rc'] 37)) ; have HV11 := sA (blk_box HV10.out (.cells #[.int .i64 ra, .int .i64 rb, .int .i64 rc'] 37)) ; have HC11 := sA (blk_box HC10.out (.cells #[.int .i64 ra, .int .i64 rb, .int .i64 rc'] 37)) ; have HI11 := sA (blk_box HI10.out (.cells #[.int .i64 ra, .int .i64 rb, .int .i64 rc'] 37)) ; have HU11 := sA (al_new w10 (.cells #[.int .i64 ra, .int .i64 rb, .int .i64 rc'] 37)) ; have HSZ11 := sA (Nat.le_refl (w10.alloc (.cells #[.int .i64 ra, .int .i64 rb, .int .i64 rc'] 37)).heap.size) ; have HXC11 := sA (HXC10.out.below (bA (Below.refl w10.heap.size w10) (.cells #[.int .i64 ra, .int .i64 rb, .int .i64 rc'] 37))) ; have HXI11 := sA (HXI10.out.below (bA (Below.refl w10.heap.size w10) (.cells #[.int .i64 ra, .int .i64 rb, .int .i64 rc'] 37))) ; have HXR11 := sA (Kd.C_below HXR10.out (bA (Below.refl w10.heap.size w10) (.cells #[.int .i64 ra, .int .i64 rb, .int .i64 rc'] 37)))
  go_at_call 13
  refine (eqVerdict3 _ ra rb rc').mono ?_
  rintro e w12 ⟨rfl, hb⟩
  have HB12 := sA (bC HB11.out hb); have HP12 := sA (bB HP11.out hb); have HQ12 := sA (bB HQ11.out hb); have HV12 := sA (bB HV11.out hb); have HC12 := sA (bB HC11.out hb); have HI12 := sA (bB HI11.out hb); have HU12 := sA (bB HU11.out hb); have HSZ12 := sA (Nat.le_trans HSZ11.out hb.size); have HXC12 := sA (HXC11.out.below hb); have HXI12 := sA (HXI11.out.below hb); have HXR12 := sA (Kd.C_below HXR11.out hb); clear hb
  obtain ⟨p1, p2⟩ := lay0 HP12.out
  obtain ⟨q1, q2⟩ := lay0 HQ12.out
  obtain ⟨v1, v2⟩ := lay0 HV12.out
  obtain ⟨c1, c2⟩ := lay0 HC12.out
  obtain ⟨i1, i2⟩ := lay0 HI12.out
  obtain ⟨u1, u2⟩ := lay0 HU12.out
  go_wp2_with fail
  clear p1 p2 q1 q2 v1 v2 c1 c2 i1 i2 u1 u2
  go_region_held3 (fun w' => w'.cell? ⟨w.heap.size, 0, none⟩ = some (.int .i64 c.regs) ∧ w'.cell? ⟨w.heap.size, 1, none⟩ = some (.int .i64 c.slots) ∧ w'.cell? ⟨w.heap.size, 2, none⟩ = some (.slice A0 c.b0.length c0) ∧ w'.cell? ⟨w.heap.size, 3, none⟩ = some (.slice A1 c.b1.length c1) ∧ w'.cell? ⟨w.heap.size, 4, none⟩ = some (.slice A2 c.b2.length c2) ∧ w'.cell? ⟨w5.heap.size, 0, none⟩ = some (.int .i64 c.regs) ∧ w'.cell? ⟨w5.heap.size, 1, none⟩ = some (.int .i64 c.slots) ∧ w'.cell? ⟨w5.heap.size, 2, none⟩ = some (.slice E0 c.b0.length e0) ∧ w'.cell? ⟨w5.heap.size, 3, none⟩ = some (.slice E1 c.b1.length e1) ∧ w'.cell? ⟨w5.heap.size, 4, none⟩ = some (.slice E2 c.b2.length e2) ∧ Below w12.heap.size w12 w')
    (first | exact ⟨blk_cell HP12.out 0, blk_cell HP12.out 1, blk_cell HP12.out 2, blk_cell HP12.out 3, blk_cell HP12.out 4, blk_cell HC12.out 0, blk_cell HC12.out 1, blk_cell HC12.out 2, blk_cell HC12.out 3, blk_cell HC12.out 4, below_drew (Below.refl _ _)⟩ | exact keepC10 (by assumption) hb2 | exact keepC10 (by assumption) hb3)
    (first
      | (go_at_call 9; refine Calls.mono (toCode _ _ c ?_ HZ1.out) ?_; exact HRD.out.1.below (bC HB12.out (belC10 (by assumption))); rintro e y1 ⟨z1, rfl, ho, hb2⟩; replace ho := ho.read)
      | (go_at_call 14; refine (eqCode _ _ _ c (HXC12.out.below (belC10 (by assumption))) ho HZ1.out).mono ?_; rintro e w13 ⟨rfl, hb3⟩))
  rename_i hb
  replace hb := belC10 hb
  have HB13 := sA (bC HB12.out hb); have HP13 := sA (bB HP12.out hb); have HQ13 := sA (bB HQ12.out hb); have HV13 := sA (bB HV12.out hb); have HC13 := sA (bB HC12.out hb); have HI13 := sA (bB HI12.out hb); have HU13 := sA (bB HU12.out hb); have HSZ13 := sA (Nat.le_trans HSZ12.out hb.size); have HXC13 := sA (HXC12.out.below hb); have HXI13 := sA (HXI12.out.below hb); have HXR13 := sA (Kd.C_below HXR12.out hb); clear hb
  go_wp2_with fail
  go_region_held3 (fun w' => w'.cell? ⟨w.heap.size + 1, 0, none⟩ = some (.slice B0 x.vs.length d0) ∧ w'.cell? ⟨w.heap.size + 1, 1, none⟩ = some (.slice B1 x.qs.length d1) ∧ w'.cell? ⟨w.heap.size + 1, 2, none⟩ = some (.slice B2 x.rs.length d2) ∧ w'.cell? ⟨w7.heap.size, 0, none⟩ = some (.slice F0 x.vs.length f0) ∧ w'.cell? ⟨w7.heap.size, 1, none⟩ = some (.slice F1 x.qs.length f1) ∧ w'.cell? ⟨w7.heap.size, 2, none⟩ = some (.slice F2 x.rs.length f2) ∧ Below w13.heap.size w13 w')
    (first | exact ⟨blk_cell HQ13.out 0, blk_cell HQ13.out 1, blk_cell HQ13.out 2, blk_cell HI13.out 0, blk_cell HI13.out 1, blk_cell HI13.out 2, below_drew (Below.refl _ _)⟩ | exact keepC6 (by assumption) hb2 | exact keepC6 (by assumption) hb3)
    (first
      | (go_at_call 10; refine Calls.mono (toInst _ _ x ?_ HZ2.out) ?_; exact HRD.out.2.below (bC HB13.out (belC6 (by assumption))); rintro e y1 ⟨z1, rfl, ho, hb2⟩; replace ho := ho.read)
      | (go_at_call 15; refine (eqInst _ _ _ x (HXI13.out.below (belC6 (by assumption))) ho HZ2.out).mono ?_; rintro e w14 ⟨rfl, hb3⟩))
  rename_i hb
  replace hb := belC6 hb
  have HB14 := sA (bC HB13.out hb); have HP14 := sA (bB HP13.out hb); have HQ14 := sA (bB HQ13.out hb); have HV14 := sA (bB HV13.out hb); have HC14 := sA (bB HC13.out hb); have HI14 := sA (bB HI13.out hb); have HU14 := sA (bB HU13.out hb); have HSZ14 := sA (Nat.le_trans HSZ13.out hb.size); have HXC14 := sA (HXC13.out.below hb); have HXI14 := sA (HXI13.out.below hb); have HXR14 := sA (Kd.C_below HXR13.out hb); clear hb
  obtain ⟨p1, p2⟩ := lay0 HP14.out
  obtain ⟨q1, q2⟩ := lay0 HQ14.out
  obtain ⟨v1, v2⟩ := lay0 HV14.out
  obtain ⟨c1, c2⟩ := lay0 HC14.out
  obtain ⟨i1, i2⟩ := lay0 HI14.out
  obtain ⟨u1, u2⟩ := lay0 HU14.out
  go_wp2_with fail
  clear p1 p2 q1 q2 v1 v2 c1 c2 i1 i2 u1 u2
  go_at_call 18
  refine (toInt64S _ R rc xs (Kd.C_below HQ.out HB14.out) hxl).mono ?_
  rintro e w15 ⟨u8, rfl, ho, hb⟩
  have HB15 := sA (bC HB14.out hb); have HP15 := sA (bB HP14.out hb); have HQ15 := sA (bB HQ14.out hb); have HV15 := sA (bB HV14.out hb); have HC15 := sA (bB HC14.out hb); have HI15 := sA (bB HI14.out hb); have HU15 := sA (bB HU14.out hb); have HSZ15 := sA (Nat.le_trans HSZ14.out hb.size); have HXC15 := sA (HXC14.out.below hb); have HXI15 := sA (HXI14.out.below hb); have HXR15 := sA (Kd.C_below HXR14.out hb); clear hb
  obtain ⟨R3, rc3, rfl, _, q3⟩ := Kd.R_reads ho
  have HQ8 := sA q3; clear ho q3
  go_wp2_with fail
  go_at_call 20
  refine (eqInt64S _ R2 R3 rc2 rc3 xs HXR15.out HQ8.out hxl).mono ?_
  rintro e w16 ⟨rfl, hb⟩
  have HB16 := sA (bC HB15.out hb); have HP16 := sA (bB HP15.out hb); have HQ16 := sA (bB HQ15.out hb); have HV16 := sA (bB HV15.out hb); have HC16 := sA (bB HC15.out hb); have HI16 := sA (bB HI15.out hb); have HU16 := sA (bB HU15.out hb); have HSZ16 := sA (Nat.le_trans HSZ15.out hb.size); have HXC16 := sA (HXC15.out.below hb); have HXI16 := sA (HXI15.out.below hb); have HXR16 := sA (Kd.C_below HXR15.out hb); clear hb
  go_wp2
  go_ret
  exact ⟨rfl, HB16.out⟩
end
end Go.Proofs.YtlhpbpkefkabgaaGreat.L1
