/- What a frame has come to. The state at the start, as the program tells it. -/
import Derived.Test.YtlhpbpkefkabgaaGreatQS30
import Derived.Test.YtlhpbpkefkabgaaGreatQS31
import Derived.Test.YtlhpbpkefkabgaaGreatQS26
import Derived.Test.YtlhpbpkefkabgaaGreatQS27
namespace Go.Proofs.YtlhpbpkefkabgaaGreat.L1
open Go.RowKit Go.Proofs.YtlhpbpkefkabgaaGreatW.PrintWords Go.Proofs.YtlhpbpkefkabgaaGreat.B
set_option linter.unusedVariables false
set_option linter.unusedSimpArgs false
attribute [local go_sem] mk_cell mk_frozen
section
variable (w : World)
set_option maxRecDepth 100000 in
set_option maxHeartbeats 8000000 in
theorem impl_state_bad (g : Nat) (p nd t d l : Int) (k0 k1 k2 k3 k4 i0 i1 i2 : Value) (kv q : Int) (S0 S1 S2 : Option Addr) (n0 n1 n2 c0 c1 c2 : Nat) (br : Int) (hg : w.heap[g]? = some (.cells (frameC p nd t d l k0 k1 k2 k3 k4 i0 i1 i2 kv q (.slice S0 n0 c0) (.slice S1 n1 c1) (.slice S2 n2 c2) br) 125 (0, 0))) (hb : 0 < br) :
    Calls Tryz.prog 120 #[.pointer (some ⟨g, 0, none⟩)] w fun e w' => e = .returned (.agg #[.int .i64 p, .int .i64 br, .int .i64 0, .int .i64 0, .int .i64 0, .int .i64 0, .slice none 0 0, .slice none 0 0, .slice none 0 0]) ∧ Below w.heap.size w w' := by
  unfold frameC at hg
  have hk := blk_box hg (.cells #[.int .i64 0, .int .i64 0, .int .i64 0, .int .i64 0, .int .i64 0, .int .i64 0, .slice none 0 0, .slice none 0 0, .slice none 0 0] 49); have HKG0 := sA hk; clear hk hg
  have hbr : decide (0 < br) = true := decide_eq_true hb
  obtain ⟨HB0, HKS0, HZ0⟩ := opens1 w (.cells #[.int .i64 0, .int .i64 0, .int .i64 0, .int .i64 0, .int .i64 0, .int .i64 0, .slice none 0 0, .slice none 0 0, .slice none 0 0] 49)
  have HGKS := sA (show w.heap.size ≤ w.heap.size from Nat.le_add_right _ 0)
  have HSZ0 := sA (Nat.le_refl (w.alloc (.cells #[.int .i64 0, .int .i64 0, .int .i64 0, .int .i64 0, .int .i64 0, .int .i64 0, .slice none 0 0, .slice none 0 0, .slice none 0 0] 49)).heap.size)
  go_enter Tryz.func120, Tryz.ntmps120
  obtain ⟨ks1, ks2⟩ := lay0 HKS0.out
  obtain ⟨kg1, kg2⟩ := lay0 HKG0.out
  go_wp2_with fail
  clear ks1 ks2 kg1 kg2
  refine Grow.wp_region_tail 10 (by kernel_rfl) (by kernel_rfl) ?_
  dsimp only [List.take, List.drop]
  repeat ((first | (refine Grow.lexP_do _ (by rfl) (by rfl) (by intro W hj; obtain ⟨ks1, ks2⟩ := lay hj.out HKS0.out; obtain ⟨kg1, kg2⟩ := lay hj.out HKG0.out; go_simp; first | exact Grow.UponB.val) ?_)); refine Grow.lexP_norm (fun K hK => ?_); go_simp; refine hK _ ?_; clear hK K)
  refine Grow.lexP_nil (fun w1 hj => ?_)
  have hb := hj.out; clear hj
  have HB1 := sA (bC HB0.out hb); have HKS1 := sA (bB HKS0.out hb); have HKG1 := sA (bB HKG0.out hb); have HSZ1 := sA (Nat.le_trans HSZ0.out hb.size); clear hb
  obtain ⟨ks1, ks2⟩ := lay0 HKS1.out
  obtain ⟨kg1, kg2⟩ := lay0 HKG1.out
  go_wp2_with ((with_reducible refine gate_store (t := 49) (p := 2) rfl ?_); refine wpList_putAll rfl rfl _ _ _ rfl (g := w.heap.size) [.int .i64 p, .int .i64 br, .int .i64 0, .int .i64 0, .int .i64 0, .int .i64 0, .slice none 0 0, .slice none 0 0, .slice none 0 0] rfl rfl (by kernel_rfl) (one_all rfl) HKS1.out rfl ?_; intro w2 hX hT hz; clear hz; clear ks1 ks2 kg1 kg2; (try simp only [List.setIfInBounds_toArray, List.set_cons_zero, List.set_cons_succ] at hX); have HB2 := sA (hT.below w (fun k hk => by rw [hk]; exact HGKS.out) HB1.out); have HKG2 := sA (tK hT HKS1.out HKG1.out (by decide)); have HSZ2 := sA (Nat.le_trans HSZ1.out hT.size); have HKS2 := sA hX; clear hX hT; obtain ⟨ks1, ks2⟩ := lay0 HKS2.out; obtain ⟨kg1, kg2⟩ := lay0 HKG2.out)
  clear ks1 ks2 kg1 kg2
  refine bodyPost_ret (results_cell Tryz.results120 rfl HKS2.out Tryz.underlying49 rfl (by kernel_rfl)) rfl ?_
  exact ⟨rfl, HB2.out⟩
set_option maxRecDepth 100000 in
set_option maxHeartbeats 8000000 in
theorem impl_state_good (g : Nat) (p nd t d l : Int) (k0 k1 k2 k3 k4 i0 i1 i2 : Value) (kv q : Int) (S0 S1 S2 : Option Addr) (n0 n1 n2 c0 c1 c2 : Nat) (br : Int) (hg : w.heap[g]? = some (.cells (frameC p nd t d l k0 k1 k2 k3 k4 i0 i1 i2 kv q (.slice S0 n0 c0) (.slice S1 n1 c1) (.slice S2 n2 c2) br) 125 (0, 0))) (hb : br = 0) :
    Calls Tryz.prog 120 #[.pointer (some ⟨g, 0, none⟩)] w fun e w' => e = .returned (.agg #[.int .i64 p, .int .i64 (-1), .int .i64 nd, .int .i64 t, .int .i64 d, .int .i64 l, .slice S0 n0 c0, .slice S1 n1 c1, .slice S2 n2 c2]) ∧ Below w.heap.size w w' := by
  unfold frameC at hg
  have hk := blk_box hg (.cells #[.int .i64 0, .int .i64 0, .int .i64 0, .int .i64 0, .int .i64 0, .int .i64 0, .slice none 0 0, .slice none 0 0, .slice none 0 0] 49); have HKG0 := sA hk; clear hk hg
  have hbr : decide (0 < br) = false := decide_eq_false (by omega)
  obtain ⟨HB0, HKS0, HZ0⟩ := opens1 w (.cells #[.int .i64 0, .int .i64 0, .int .i64 0, .int .i64 0, .int .i64 0, .int .i64 0, .slice none 0 0, .slice none 0 0, .slice none 0 0] 49)
  have HGKS := sA (show w.heap.size ≤ w.heap.size from Nat.le_add_right _ 0)
  have HSZ0 := sA (Nat.le_refl (w.alloc (.cells #[.int .i64 0, .int .i64 0, .int .i64 0, .int .i64 0, .int .i64 0, .int .i64 0, .slice none 0 0, .slice none 0 0, .slice none 0 0] 49)).heap.size)
  go_enter Tryz.func120, Tryz.ntmps120
  obtain ⟨ks1, ks2⟩ := lay0 HKS0.out
  obtain ⟨kg1, kg2⟩ := lay0 HKG0.out
  go_wp2_with fail
  clear ks1 ks2 kg1 kg2
  refine Grow.wp_region_tail 38 (by kernel_rfl) (by kernel_rfl) ?_
  dsimp only [List.take, List.drop]
  repeat ((first | (refine Grow.lexP_do _ (by rfl) (by rfl) (by intro W hj; obtain ⟨ks1, ks2⟩ := lay hj.out HKS0.out; obtain ⟨kg1, kg2⟩ := lay hj.out HKG0.out; go_simp; first | exact Grow.UponB.val) ?_)); refine Grow.lexP_norm (fun K hK => ?_); go_simp; refine hK _ ?_; clear hK K)
  refine Grow.lexP_nil (fun w1 hj => ?_)
  have hb := hj.out; clear hj
  have HB1 := sA (bC HB0.out hb); have HKS1 := sA (bB HKS0.out hb); have HKG1 := sA (bB HKG0.out hb); have HSZ1 := sA (Nat.le_trans HSZ0.out hb.size); clear hb
  obtain ⟨ks1, ks2⟩ := lay0 HKS1.out
  obtain ⟨kg1, kg2⟩ := lay0 HKG1.out
  go_wp2_with ((with_reducible refine gate_store (t := 49) (p := 2) rfl ?_); refine wpList_putAll rfl rfl _ _ _ rfl (g := w.heap.size) [.int .i64 p, .int .i64 (-1), .int .i64 nd, .int .i64 t, .int .i64 d, .int .i64 l, .slice S0 n0 c0, .slice S1 n1 c1, .slice S2 n2 c2] rfl rfl (by kernel_rfl) (one_all rfl) HKS1.out rfl ?_; intro w2 hX hT hz; clear hz; clear ks1 ks2 kg1 kg2; (try simp only [List.setIfInBounds_toArray, List.set_cons_zero, List.set_cons_succ] at hX); have HB2 := sA (hT.below w (fun k hk => by rw [hk]; exact HGKS.out) HB1.out); have HKG2 := sA (tK hT HKS1.out HKG1.out (by decide)); have HSZ2 := sA (Nat.le_trans HSZ1.out hT.size); have HKS2 := sA hX; clear hX hT; obtain ⟨ks1, ks2⟩ := lay0 HKS2.out; obtain ⟨kg1, kg2⟩ := lay0 HKG2.out)
  clear ks1 ks2 kg1 kg2
  refine bodyPost_ret (results_cell Tryz.results120 rfl HKS2.out Tryz.underlying49 rfl (by kernel_rfl)) rfl ?_
  exact ⟨rfl, HB2.out⟩
end
end Go.Proofs.YtlhpbpkefkabgaaGreat.L1
namespace Go.Proofs.YtlhpbpkefkabgaaGreat.L1
open Go.RowKit Go.Proofs.YtlhpbpkefkabgaaGreatW.PrintWords Go.Proofs.YtlhpbpkefkabgaaGreat.B
set_option linter.unusedVariables false
set_option linter.unusedSimpArgs false
attribute [local go_sem] mk_cell mk_frozen
theorem make_row (W : World) (base m : Nat) (hb : base ≤ W.heap.size) (hm : m ≤ 1000000) : kInt.R 2 (W.alloc (.cells (madeCells #[.int .i64 0] m) 2)) base (fun _ => True) (.slice (some ⟨W.heap.size, 0, none⟩) m m) (List.replicate m 0) := by
  have h := own_made' W base 2 .i64 m hb (by omega)
  have e : nums .i64 (List.replicate m 0) = (List.replicate m (0 : Int)).flatMap (fun n => [Value.int .i64 n]) := by
    unfold nums; induction (List.replicate m (0 : Int)) with
    | nil => rfl
    | cons a t ih => simp [ih]
  rw [e] at h
  refine ⟨fun _ _ => trivial, _, ?_, reps_flat (enc := fun n => [Value.int .i64 n]) (fun _ => rfl) (List.replicate m 0)⟩
  exact h
/-- The empty state that the start is made of. -/
def zeroSt (c : Code) (x : Inst) : St := ⟨-1, 0, 0, 0, 0, 0, zeroS x.qs.length, zeroS c.regs, zeroS (c.slots * x.qs.length)⟩
section
variable (w : World)
set_option maxRecDepth 100000 in
set_option maxHeartbeats 8000000 in
theorem impl_start (c : Code) (A0 : Option Addr) (c0 : Nat) (A1 : Option Addr) (c1 : Nat) (A2 : Option Addr) (c2 : Nat) (x : Inst) (B0 : Option Addr) (d0 : Nat) (B1 : Option Addr) (d1 : Nat) (B2 : Option Addr) (d2 : Nat) (kv : Nat) (hI : ReadInst w (.agg #[.slice B0 x.vs.length d0, .slice B1 x.qs.length d1, .slice B2 x.rs.length d2]) x) (hK : kIns.C w A0 c.b0.length c.b0) (hcv : c.valid = true) (hxv : x.valid = true) (hkv : kv < x.vs.length) :
    Calls Tryz.prog 84 #[.agg #[.int .i64 c.regs, .int .i64 c.slots, .slice A0 c.b0.length c0, .slice A1 c.b1.length c1, .slice A2 c.b2.length c2], .agg #[.slice B0 x.vs.length d0, .slice B1 x.qs.length d1, .slice B2 x.rs.length d2], .int .i64 kv] w fun e w' => ∃ t, e = .returned t ∧ RState w' t (startS c x kv) ∧ Below w.heap.size w w' := by
  have HX := sA hI; have HK := sA hK; have HV := sA (And.intro hcv (And.intro hxv hkv))
  obtain ⟨f0, f1, f2, hnear⟩ := Inst.few_near hxv
  have hsl := slots_small hcv hxv
  have hcf := Code.facts hcv
  have HKB := sA (And.intro hcf.1 hcf.2.1); have HSL := sA hsl; have HCF := sA hcf
  have hq1 : x.qs.length ≤ 1048576 := by have := HSL.out; omega
  have HMK := sA (show x.qs.length ≤ 1000000 ∧ c.regs.toNat ≤ 1000000 ∧ (c.slots * (x.qs.length : Int)).toNat ≤ 1000000 from ⟨by have := HSL.out; omega, by have := HSL.out; omega, by have := HSL.out; omega⟩)
  have m0 := print_make (P := Tryz.prog) 30 2 .i64 8 (by kernel_rfl) (by kernel_rfl) (by decide) x.qs.length (by omega)
  have m1 := print_make_int (P := Tryz.prog) 30 2 (.int .i64 0) 8 (by kernel_rfl) (by kernel_rfl) rfl (by decide) c.regs (by omega) (by omega)
  have m2 := print_make_int (P := Tryz.prog) 30 2 (.int .i64 0) 8 (by kernel_rfl) (by kernel_rfl) rfl (by decide) (c.slots * (x.qs.length : Int)) (by omega) (by omega)
  have qsl : IntKind.i64.wrap (c.slots * (x.qs.length : Int)) = c.slots * (x.qs.length : Int) := IntWalk.i64_in _ (by omega)
  have HM := sA (And.intro m0 (And.intro m1 m2)); have HQS := sA qsl
  clear hI hK hsl hcf hnear f0 f1 f2 m0 m1 m2 qsl
  obtain ⟨HB0, HKC0, HKI0, HKS0, HZ0⟩ := opens3 w (.cells #[.int .i64 c.regs, .int .i64 c.slots, .slice A0 c.b0.length c0, .slice A1 c.b1.length c1, .slice A2 c.b2.length c2] 41) (.cells #[.slice B0 x.vs.length d0, .slice B1 x.qs.length d1, .slice B2 x.rs.length d2] 47) (.cells #[.int .i64 0, .int .i64 0, .int .i64 0, .int .i64 0, .int .i64 0, .int .i64 0, .slice none 0 0, .slice none 0 0, .slice none 0 0] 49)
  have HGKC := sA (show w.heap.size ≤ w.heap.size from Nat.le_add_right _ 0)
  have HGKI := sA (show w.heap.size ≤ w.heap.size + 1 from Nat.le_add_right _ 1)
  have HGKS := sA (show w.heap.size ≤ w.heap.size + 1 + 1 from Nat.le_add_right _ 2)
  have HSZ0 := sA (Nat.le_refl (((w.alloc (.cells #[.int .i64 c.regs, .int .i64 c.slots, .slice A0 c.b0.length c0, .slice A1 c.b1.length c1, .slice A2 c.b2.length c2] 41)).alloc (.cells #[.slice B0 x.vs.length d0, .slice B1 x.qs.length d1, .slice B2 x.rs.length d2] 47)).alloc (.cells #[.int .i64 0, .int .i64 0, .int .i64 0, .int .i64 0, .int .i64 0, .int .i64 0, .slice none 0 0, .slice none 0 0, .slice none 0 0] 49)).heap.size)
  go_enter Tryz.func84, Tryz.ntmps84
  go_wp2_with fail
  go_at_call 97
  refine (impl_requests _ B0 B1 B2 x.vs.length x.qs.length x.rs.length d0 d1 d2 hq1).mono ?_
  rintro e w1 ⟨rfl, hb⟩
  have HB1 := sA (bC HB0.out hb); have HKC1 := sA (bB HKC0.out hb); have HKI1 := sA (bB HKI0.out hb); have HKS1 := sA (bB HKS0.out hb); have HSZ1 := sA (Nat.le_trans HSZ0.out hb.size); clear hb
  obtain ⟨m0, m1, m2⟩ := HM.out; have qsl := HQS.out
  obtain ⟨kc1, kc2⟩ := lay0 HKC1.out
  obtain ⟨ki1, ki2⟩ := lay0 HKI1.out
  obtain ⟨ks1, ks2⟩ := lay0 HKS1.out
  go_wp2_with fail
  clear kc1 kc2 ki1 ki2 ks1 ks2
  refine Grow.wp_region_deps 14 ⟨[(4, 15), (7, 18), (12, 23), (13, 24)], fun i v lo hi W => GAt [(4, RowP w1.heap.size (zeroS x.qs.length)), (7, RowP w1.heap.size (zeroS c.regs)), (12, RowP w1.heap.size (zeroS (c.slots * x.qs.length))), (13, AggP (fun vs => .agg #[.int .i64 (-1), .int .i64 0, .int .i64 0, .int .i64 0, .int .i64 0, .int .i64 0, vs.getD 0 undef, vs.getD 1 undef, vs.getD 2 undef]) w1.heap.size [zeroS x.qs.length, zeroS c.regs, zeroS (c.slots * x.qs.length)])] i v lo W, fun i v lo hi W W' hb h => GAt.stays (l := [(4, RowP w1.heap.size (zeroS x.qs.length)), (7, RowP w1.heap.size (zeroS c.regs)), (12, RowP w1.heap.size (zeroS (c.slots * x.qs.length))), (13, AggP (fun vs => .agg #[.int .i64 (-1), .int .i64 0, .int .i64 0, .int .i64 0, .int .i64 0, .int .i64 0, vs.getD 0 undef, vs.getD 1 undef, vs.getD 2 undef]) w1.heap.size [zeroS x.qs.length, zeroS c.regs, zeroS (c.slots * x.qs.length)])]) ⟨RowP.stays _ _, RowP.stays _ _, RowP.stays _ _, AggP.stays _ _ _, trivial⟩ i v lo hi W W' hb h⟩ (by kernel_rfl) (show List.Pairwise (fun p q : Nat × Tmp => p.1 ≠ q.1 ∧ p.2 ≠ q.2) [(4, 15), (7, 18), (12, 23), (13, 24)] from by decide) (by kernel_rfl) (by rfl) ?_
  dsimp only [List.take, List.drop]
  repeat (refine Grow.lexD_do _ (by rfl) (by rfl) (by intro W hj; obtain ⟨kc1, kc2⟩ := lay hj.out HKC1.out; obtain ⟨ki1, ki2⟩ := lay hj.out HKI1.out; obtain ⟨ks1, ks2⟩ := lay hj.out HKS1.out; go_simp; first | exact Grow.UponB.val) ?_; refine Grow.lexD_norm (fun K hK => ?_); go_simp; refine hK _ ?_; clear hK K)
  refine Grow.lexD_make (by rfl) (by rfl) (by intro u lo hi W hj hd; have hlow : w1.heap.size ≤ W.heap.size := hj.out.size; obtain ⟨kc1, kc2⟩ := lay hj.out HKC1.out; obtain ⟨ki1, ki2⟩ := lay hj.out HKI1.out; obtain ⟨ks1, ks2⟩ := lay hj.out HKS1.out; dsimp only [Grow.fillM, List.foldl]; go_simp; refine Grow.UponB.boxR ?_; exact GAt.mk (P := RowP w1.heap.size (zeroS x.qs.length)) (make_row W w1.heap.size x.qs.length hlow HMK.out.1) (by intro p hp he; simp only [List.mem_cons, List.not_mem_nil, or_false] at hp; rcases hp with rfl | rfl | rfl | rfl <;> first | rfl | exact absurd he (by simp))) ?_
  refine Grow.lexD_norm (fun K hK => ?_); go_simp; refine hK _ ?_; clear hK K
  repeat (refine Grow.lexD_do _ (by rfl) (by rfl) (by intro W hj; obtain ⟨kc1, kc2⟩ := lay hj.out HKC1.out; obtain ⟨ki1, ki2⟩ := lay hj.out HKI1.out; obtain ⟨ks1, ks2⟩ := lay hj.out HKS1.out; go_simp; first | exact Grow.UponB.val) ?_; refine Grow.lexD_norm (fun K hK => ?_); go_simp; refine hK _ ?_; clear hK K)
  refine Grow.lexD_make (by rfl) (by rfl) (by intro u lo hi W hj hd; have hlow : w1.heap.size ≤ W.heap.size := hj.out.size; obtain ⟨kc1, kc2⟩ := lay hj.out HKC1.out; obtain ⟨ki1, ki2⟩ := lay hj.out HKI1.out; obtain ⟨ks1, ks2⟩ := lay hj.out HKS1.out; dsimp only [Grow.fillM, List.foldl]; go_simp; refine Grow.UponB.boxR ?_; exact GAt.mk (P := RowP w1.heap.size (zeroS c.regs)) (make_row W w1.heap.size c.regs.toNat hlow HMK.out.2.1) (by intro p hp he; simp only [List.mem_cons, List.not_mem_nil, or_false] at hp; rcases hp with rfl | rfl | rfl | rfl <;> first | rfl | exact absurd he (by simp))) ?_
  refine Grow.lexD_norm (fun K hK => ?_); go_simp; refine hK _ ?_; clear hK K
  repeat (refine Grow.lexD_do _ (by rfl) (by rfl) (by intro W hj; obtain ⟨kc1, kc2⟩ := lay hj.out HKC1.out; obtain ⟨ki1, ki2⟩ := lay hj.out HKI1.out; obtain ⟨ks1, ks2⟩ := lay hj.out HKS1.out; go_simp; first | exact Grow.UponB.val) ?_; refine Grow.lexD_norm (fun K hK => ?_); go_simp; refine hK _ ?_; clear hK K)
  refine Grow.lexD_make (by rfl) (by rfl) (by intro u lo hi W hj hd; have hlow : w1.heap.size ≤ W.heap.size := hj.out.size; obtain ⟨kc1, kc2⟩ := lay hj.out HKC1.out; obtain ⟨ki1, ki2⟩ := lay hj.out HKI1.out; obtain ⟨ks1, ks2⟩ := lay hj.out HKS1.out; dsimp only [Grow.fillM, List.foldl]; go_simp; refine Grow.UponB.boxR ?_; exact GAt.mk (P := RowP w1.heap.size (zeroS (c.slots * x.qs.length))) (make_row W w1.heap.size (c.slots * (x.qs.length : Int)).toNat hlow HMK.out.2.2) (by intro p hp he; simp only [List.mem_cons, List.not_mem_nil, or_false] at hp; rcases hp with rfl | rfl | rfl | rfl <;> first | rfl | exact absurd he (by simp))) ?_
  refine Grow.lexD_norm (fun K hK => ?_); go_simp; refine hK _ ?_; clear hK K
  refine Grow.lexD_make (by rfl) (by rfl) (by intro u lo hi W hj hd; have hlow : w1.heap.size ≤ W.heap.size := hj.out.size; obtain ⟨kc1, kc2⟩ := lay hj.out HKC1.out; obtain ⟨ki1, ki2⟩ := lay hj.out HKI1.out; obtain ⟨ks1, ks2⟩ := lay hj.out HKS1.out; have h4 : kInt.R 2 W w1.heap.size (fun _ => True) (u 4) (zeroS x.qs.length) := ((hd 4 rfl (by kernel_rfl)).at (P := RowP w1.heap.size (zeroS x.qs.length)) (by simp)); obtain ⟨A14, c14, hu4⟩ := Kd.R_slice h4; rw [hu4] at h4; have h7 : kInt.R 2 W w1.heap.size (fun _ => True) (u 7) (zeroS c.regs) := ((hd 7 rfl (by kernel_rfl)).at (P := RowP w1.heap.size (zeroS c.regs)) (by simp)); obtain ⟨A17, c17, hu7⟩ := Kd.R_slice h7; rw [hu7] at h7; have h12 : kInt.R 2 W w1.heap.size (fun _ => True) (u 12) (zeroS (c.slots * x.qs.length)) := ((hd 12 rfl (by kernel_rfl)).at (P := RowP w1.heap.size (zeroS (c.slots * x.qs.length))) (by simp)); obtain ⟨A22, c22, hu12⟩ := Kd.R_slice h12; rw [hu12] at h12; dsimp only [Grow.fillM, List.foldl]; go_simp; refine Grow.UponB.valR ?_; exact GAt.mk (P := AggP (fun vs => .agg #[.int .i64 (-1), .int .i64 0, .int .i64 0, .int .i64 0, .int .i64 0, .int .i64 0, vs.getD 0 undef, vs.getD 1 undef, vs.getD 2 undef]) w1.heap.size [zeroS x.qs.length, zeroS c.regs, zeroS (c.slots * x.qs.length)]) (⟨[.slice A14 _ c14, .slice A17 _ c17, .slice A22 _ c22], rfl, rfl, fun k hk => by rcases (show k = 0 ∨ k = 1 ∨ k = 2 by simp at hk; omega) with rfl | rfl | rfl; exact h4; exact h7; exact h12⟩) (by intro p hp he; simp only [List.mem_cons, List.not_mem_nil, or_false] at hp; rcases hp with rfl | rfl | rfl | rfl <;> first | rfl | exact absurd he (by simp))) ?_
  refine Grow.lexD_norm (fun K hK => ?_); go_simp; refine hK _ ?_; clear hK K
  refine Grow.lexD_nil (fun u lo hi w2 hj hG hord => ?_)
  obtain ⟨vs, hu14, hvl, hvs⟩ := (show AggP (fun vs => .agg #[.int .i64 (-1), .int .i64 0, .int .i64 0, .int .i64 0, .int .i64 0, .int .i64 0, vs.getD 0 undef, vs.getD 1 undef, vs.getD 2 undef]) w1.heap.size [zeroS x.qs.length, zeroS c.regs, zeroS (c.slots * x.qs.length)] (u 13) (lo 13) w2 from ((hG 13 rfl).1).at (by simp))
  have hr0 : kInt.R 2 w2 w1.heap.size (fun _ => True) (vs.getD 0 undef) (zeroS x.qs.length) := hvs 0 (by simp)
  have hr1 : kInt.R 2 w2 w1.heap.size (fun _ => True) (vs.getD 1 undef) (zeroS c.regs) := hvs 1 (by simp)
  have hr2 : kInt.R 2 w2 w1.heap.size (fun _ => True) (vs.getD 2 undef) (zeroS (c.slots * x.qs.length)) := hvs 2 (by simp)
  clear hG hord hvs m0 m1 m2 qsl
  dsimp only [List.foldl]
  dsimp only at hu14
  rw [hu14]
  generalize vs.getD 0 undef = v0 at *
  generalize vs.getD 1 undef = v1 at *
  generalize vs.getD 2 undef = v2 at *
  clear hu14 hvl vs lo hi
  obtain ⟨Z0, z0, rfl, _, hz0⟩ := Kd.R_reads hr0
  obtain ⟨Z1, z1, rfl, _, hz1⟩ := Kd.R_reads hr1
  obtain ⟨Z2, z2, rfl, _, hz2⟩ := Kd.R_reads hr2
  have HZZ := sA (And.intro hz0 (And.intro hz1 hz2)); clear hr0 hr1 hr2 hz0 hz1 hz2
  refine wpl_norm (fun K hK => ?_); go_simp; refine hK _ ?_; clear hK K
  have hb := hj.out; clear hj
  have HB2 := sA (bC HB1.out hb); have HKC2 := sA (bB HKC1.out hb); have HKI2 := sA (bB HKI1.out hb); have HKS2 := sA (bB HKS1.out hb); have HSZ2 := sA (Nat.le_trans HSZ1.out hb.size); clear hb
  obtain ⟨kc1, kc2⟩ := lay0 HKC2.out
  obtain ⟨ki1, ki2⟩ := lay0 HKI2.out
  obtain ⟨ks1, ks2⟩ := lay0 HKS2.out
  go_wp2_with fail
  clear kc1 kc2 ki1 ki2 ks1 ks2
  go_at_call 67
  have hlr := zeroS_len (n := c.regs) (by have := HKB.out; omega)
  have hlq := zeroS_len (n := (x.qs.length : Int)) (by omega)
  have hls := zeroS_len (n := c.slots * (x.qs.length : Int)) HSL.out.1
  have HLR := sA (And.intro hlr (And.intro hlq hls))
  refine (impl_from w2 c A0 c0 A1 c1 A2 c2 x B0 d0 B1 d1 B2 d2 kv (zeroSt c x) Z0 z0 Z1 z1 Z2 z2 HZZ.out.1 HZZ.out.2.1 HZZ.out.2.2 (by show 0 < (zeroS c.regs).length; have := HKB.out; omega) (by show (zeroS x.qs.length).length ≤ _; have := Inst.few_of hxv; omega) (by show (zeroS c.regs).length ≤ _; have := HKB.out; omega) (by show (zeroS (c.slots * x.qs.length)).length ≤ _; have := HSL.out; omega)).mono ?_
  clear hlr hlq hls
  rintro e w3 ⟨g, rfl, s0, ga, cR, s2, hF⟩
  have hb := hF.2.2.2.2.2.2.2.2.2
  have HF := sA hF; clear hF
  have HB3 := sA (bC HB2.out hb); have HKC3 := sA (bB HKC2.out hb); have HKI3 := sA (bB HKI2.out hb); have HKS3 := sA (bB HKS2.out hb); have HSZ3 := sA (Nat.le_trans HSZ2.out hb.size); clear hb
  go_wp2_with fail
  go_at_call 68
  obtain ⟨f1, f2, f3, f4, f5, f6, f7, f8, f9, fb⟩ := HF.out
  refine (impl_arrive_start w3 w2 g ga (zeroS c.regs).length cR 0 0 0 0 (.int .i64 c.regs) (.int .i64 c.slots) (.slice A0 c.b0.length c0) (.slice A1 c.b1.length c1) (.slice A2 c.b2.length c2) B0 d0 B1 d1 B2 d2 x kv (-1) s0 s2 0 (zeroS c.regs) (zeroS (c.slots * x.qs.length)) (zeroS x.qs.length) (HX.out.below HB2.out) hxv hkv fb f1 f2 f3 f5 f6 f4 f7 f8 (by have := HLR.out.1; have := HKB.out; omega) rfl rfl).mono ?_
  clear f1 f2 f3 f4 f5 f6 f7 f8 f9 fb
  rintro e w4 ⟨rfl, hba, hg2, hr2, hs2, ht2⟩
  have HM2 := sA (And.intro hba (And.intro hg2 (And.intro hr2 (And.intro hs2 ht2)))); clear hg2 hr2 hs2 ht2
  have HB4 := sA (bC HB2.out hba); have HKC4 := sA (bB HKC2.out hba); have HKI4 := sA (bB HKI2.out hba); have HKS4 := sA (bB HKS2.out hba); have HSZ4 := sA (Nat.le_trans HSZ2.out hba.size)
  clear hba
  obtain ⟨kc1, kc2⟩ := lay0 HKC4.out
  obtain ⟨ki1, ki2⟩ := lay0 HKI4.out
  obtain ⟨ks1, ks2⟩ := lay0 HKS4.out
  go_wp2_with fail
  clear kc1 kc2 ki1 ki2 ks1 ks2
  go_at_call 69
  obtain ⟨hb2, hg2, hr2, hs2, ht2⟩ := HM2.out
  obtain ⟨f1, f2, f3, f4, f5, f6, f7, f8, f9, fb⟩ := HF.out
  have HMI : MInv w2 (fun br => frameC 0 kv (x.placeAt kv).o 0 0 (.int .i64 c.regs) (.int .i64 c.slots) (.slice A0 c.b0.length c0) (.slice A1 c.b1.length c1) (.slice A2 c.b2.length c2) (.slice B0 x.vs.length d0) (.slice B1 x.qs.length d1) (.slice B2 x.rs.length d2) kv (-1) s0 (.slice (some ⟨ga, 0, none⟩) (zeroS c.regs).length cR) s2 br) g ga (zeroS c.regs).length cR s2 s0 (zeroS x.qs.length) w4 (startM c x kv) := ⟨hb2, f2, f3, by show (startA x kv ++ (zeroS c.regs).drop 13).length = _; rw [List.length_append, startA_len, List.length_drop]; have := HLR.out.1; have := HKB.out; omega, hg2, hr2, hs2, f7, ht2, f8, f9⟩
  clear hb2 hg2 hr2 hs2 ht2 f1 f2 f3 f4 f5 f6 f7 f8 f9 fb
  have hXI := HX.out.below HB2.out
  obtain ⟨C0, k0, C1, k1, C2, k2, he, b0, b1, b2⟩ := hXI; clear b2
  have he1 : B0 = C0 ∧ B1 = C1 := by injection he with he; simp at he; exact ⟨he.1.1, he.2.1.1⟩
  obtain ⟨rfl, rfl⟩ := he1
  refine (impl_run w4 w2 0 kv (x.placeAt kv).o 0 0 (.int .i64 c.regs) (.int .i64 c.slots) (.slice A0 c.b0.length c0) (.slice A1 c.b1.length c1) (.slice A2 c.b2.length c2) B0 d0 B1 d1 B2 d2 x kv (-1) s0 s2 g ga (zeroS c.regs).length cR c.regs c.slots (startM c x kv) (zeroS x.qs.length) HMI (start_mok hcv hxv hkv) b0 b1 hxv hkv HCF.out.2.2.1 HCF.out.2.2.2.1 rfl HCF.out.1 A0 c0 c.b0 (Kd.C_below HK.out HB2.out) HCF.out.2.2.2.2.1).mono ?_
  clear HMI b0 b1 he
  rintro e w5 ⟨rfl, hM⟩
  have hba := hM.bel
  have HM := sA hM; clear hM
  have hrl : (runB (envOf x kv (-1)) c.b0 (startM c x kv)).rule = -1 ∨ (1 ≤ (runB (envOf x kv (-1)) c.b0 (startM c x kv)).rule ∧ (runB (envOf x kv (-1)) c.b0 (startM c x kv)).rule ≤ 100) := rule_of HCF.out.2.2.2.2.1 rfl
  have HML := sA (exec_mok HCF.out.2.2.2.2.1 c.b0.length 0 _ (start_mok hcv hxv hkv))
  have HB5 := sA (bC HB2.out hba); have HKC5 := sA (bB HKC2.out hba); have HKI5 := sA (bB HKI2.out hba); have HKS5 := sA (bB HKS2.out hba); have HSZ5 := sA (Nat.le_trans HSZ2.out hba.size)
  clear hba
  have HST := sA (show startS c x kv = if 0 ≤ (runB (envOf x kv (-1)) c.b0 (startM c x kv)).rule then failS 0 (runB (envOf x kv (-1)) c.b0 (startM c x kv)).rule else liveS x kv (runB (envOf x kv (-1)) c.b0 (startM c x kv)) from rfl)
  have hln := HM.out.ln; have hml := HML.out.sl
  change ((runB (envOf x kv (-1)) c.b0 (startM c x kv)).slots.length : Int) = _ at hml
  generalize runB (envOf x kv (-1)) c.b0 (startM c x kv) = mF at *
  obtain ⟨R2, q2, e2⟩ := Kd.R_slice HM.out.r2
  obtain ⟨R0, q0, e0⟩ := Kd.R_slice HM.out.r0
  subst e2 e0
  have HLN := sA hln; clear hln hml HML
  have HRa5 := sA HM.out.r1; have HRb5 := sA HM.out.r2; have HRc5 := sA HM.out.r0
  rcases hrl with hr | ⟨hr1, hr2⟩
  ·
    have HL := sA (show startS c x kv = liveS x kv mF by rw [HST.out, if_neg (by omega)]); have HBR := sA (show brk mF.rule = 0 by unfold brk; rw [if_pos (by omega)]); clear hr
    obtain ⟨kc1, kc2⟩ := lay0 HKC5.out
    obtain ⟨ki1, ki2⟩ := lay0 HKI5.out
    obtain ⟨ks1, ks2⟩ := lay0 HKS5.out
    go_wp2_with fail
    clear kc1 kc2 ki1 ki2 ks1 ks2
    go_at_call 120
    have hfr := HM.out.fr
    rw [HBR.out] at hfr
    refine (impl_state_good _ _ _ _ _ _ _ _ _ _ _ _ _ _ _ _ _ _ _ _ _ _ _ _ _ _ _ hfr rfl).mono ?_
    rintro e w6 ⟨rfl, hb⟩
    clear hfr
    have HB6 := sA (bC HB5.out hb); have HKC6 := sA (bB HKC5.out hb); have HKI6 := sA (bB HKI5.out hb); have HKS6 := sA (bB HKS5.out hb); have HRa6 := sA (Kd.R_below HRa5.out hb); have HRb6 := sA (Kd.R_below HRb5.out hb); have HRc6 := sA (Kd.R_below HRc5.out hb); have HSZ6 := sA (Nat.le_trans HSZ5.out hb.size); clear hb
    obtain ⟨kc1, kc2⟩ := lay0 HKC6.out
    obtain ⟨ki1, ki2⟩ := lay0 HKI6.out
    obtain ⟨ks1, ks2⟩ := lay0 HKS6.out
    go_wp2_with ((with_reducible refine gate_store (t := 49) (p := 6) rfl ?_); refine wpList_putAll rfl rfl _ _ _ rfl (g := w.heap.size + 1 + 1) [.int .i64 0, .int .i64 (-1), .int .i64 kv, .int .i64 (x.placeAt kv).o, .int .i64 0, .int .i64 0, .slice R0 (zeroS x.qs.length).length q0, .slice (some ⟨ga, 0, none⟩) (zeroS c.regs).length cR, .slice R2 mF.slots.length q2] rfl rfl (by kernel_rfl) (one_all rfl) HKS6.out rfl ?_; intro w7 hX hT hz; clear hz; clear kc1 kc2 ki1 ki2 ks1 ks2; (try simp only [List.setIfInBounds_toArray, List.set_cons_zero, List.set_cons_succ] at hX); have HB7 := sA (hT.below w (fun k hk => by rw [hk]; exact HGKS.out) HB6.out); have HKC7 := sA (tK hT HKS6.out HKC6.out (by decide)); have HKI7 := sA (tK hT HKS6.out HKI6.out (by decide)); have HRa7 := sA (row_tch HRa6.out hT HKS6.out (by decide)); have HRb7 := sA (row_tch HRb6.out hT HKS6.out (by decide)); have HRc7 := sA (row_tch HRc6.out hT HKS6.out (by decide)); have HSZ7 := sA (Nat.le_trans HSZ6.out hT.size); have HKS7 := sA hX; clear hX hT; obtain ⟨kc1, kc2⟩ := lay0 HKC7.out; obtain ⟨ki1, ki2⟩ := lay0 HKI7.out; obtain ⟨ks1, ks2⟩ := lay0 HKS7.out)
    clear kc1 kc2 ki1 ki2 ks1 ks2
    refine bodyPost_ret (results_cell Tryz.results84 rfl HKS7.out Tryz.underlying49 rfl (by kernel_rfl)) rfl ?_
    refine ⟨_, rfl, ?_, HB7.out⟩
    rw [HL.out]
    exact ⟨_, _, _, rfl, Kd.R_lower HRc7.out (Nat.zero_le _), Kd.R_lower HRa7.out (Nat.zero_le _), Kd.R_lower HRb7.out (Nat.zero_le _)⟩
  ·
    have HL := sA (show startS c x kv = failS 0 mF.rule by rw [HST.out, if_pos (by omega)]); have HBR := sA (show brk mF.rule = mF.rule by unfold brk; rw [if_neg (by omega)]); have HRP := sA (show 0 < mF.rule by omega); clear hr1 hr2
    obtain ⟨kc1, kc2⟩ := lay0 HKC5.out
    obtain ⟨ki1, ki2⟩ := lay0 HKI5.out
    obtain ⟨ks1, ks2⟩ := lay0 HKS5.out
    go_wp2_with fail
    clear kc1 kc2 ki1 ki2 ks1 ks2
    go_at_call 120
    have hfr := HM.out.fr
    rw [HBR.out] at hfr
    refine (impl_state_bad _ _ _ _ _ _ _ _ _ _ _ _ _ _ _ _ _ _ _ _ _ _ _ _ _ _ _ hfr HRP.out).mono ?_
    rintro e w6 ⟨rfl, hb⟩
    clear hfr
    have HB6 := sA (bC HB5.out hb); have HKC6 := sA (bB HKC5.out hb); have HKI6 := sA (bB HKI5.out hb); have HKS6 := sA (bB HKS5.out hb); have HRa6 := sA (Kd.R_below HRa5.out hb); have HRb6 := sA (Kd.R_below HRb5.out hb); have HRc6 := sA (Kd.R_below HRc5.out hb); have HSZ6 := sA (Nat.le_trans HSZ5.out hb.size); clear hb
    obtain ⟨kc1, kc2⟩ := lay0 HKC6.out
    obtain ⟨ki1, ki2⟩ := lay0 HKI6.out
    obtain ⟨ks1, ks2⟩ := lay0 HKS6.out
    go_wp2_with ((with_reducible refine gate_store (t := 49) (p := 6) rfl ?_); refine wpList_putAll rfl rfl _ _ _ rfl (g := w.heap.size + 1 + 1) [.int .i64 0, .int .i64 mF.rule, .int .i64 0, .int .i64 0, .int .i64 0, .int .i64 0, .slice none 0 0, .slice none 0 0, .slice none 0 0] rfl rfl (by kernel_rfl) (one_all rfl) HKS6.out rfl ?_; intro w7 hX hT hz; clear hz; clear kc1 kc2 ki1 ki2 ks1 ks2; (try simp only [List.setIfInBounds_toArray, List.set_cons_zero, List.set_cons_succ] at hX); have HB7 := sA (hT.below w (fun k hk => by rw [hk]; exact HGKS.out) HB6.out); have HKC7 := sA (tK hT HKS6.out HKC6.out (by decide)); have HKI7 := sA (tK hT HKS6.out HKI6.out (by decide)); have HRa7 := sA (row_tch HRa6.out hT HKS6.out (by decide)); have HRb7 := sA (row_tch HRb6.out hT HKS6.out (by decide)); have HRc7 := sA (row_tch HRc6.out hT HKS6.out (by decide)); have HSZ7 := sA (Nat.le_trans HSZ6.out hT.size); have HKS7 := sA hX; clear hX hT; obtain ⟨kc1, kc2⟩ := lay0 HKC7.out; obtain ⟨ki1, ki2⟩ := lay0 HKI7.out; obtain ⟨ks1, ks2⟩ := lay0 HKS7.out)
    clear kc1 kc2 ki1 ki2 ks1 ks2
    refine bodyPost_ret (results_cell Tryz.results84 rfl HKS7.out Tryz.underlying49 rfl (by kernel_rfl)) rfl ?_
    exact ⟨_, rfl, HL.out ▸ rstate_failed _ 0 mF.rule, HB7.out⟩
end
end Go.Proofs.YtlhpbpkefkabgaaGreat.L1
