/- StartState of the reference, for a good ask. -/
import Derived.Test.YtlhpbpkefkabgaaGreatQS26
namespace Go.Proofs.YtlhpbpkefkabgaaGreat.L1
open Go.RowKit Go.Proofs.YtlhpbpkefkabgaaGreatW.PrintWords Go.Proofs.YtlhpbpkefkabgaaGreat.B
set_option linter.unusedVariables false
set_option linter.unusedSimpArgs false
attribute [local go_sem] mk_cell mk_frozen
/-- A machine's memory of a good run stays small. -/
theorem slots_small {c : Code} {x : Inst} (hc : c.valid = true) (hx : x.valid = true) : 0 ≤ c.slots * (x.qs.length : Int) ∧ c.slots * (x.qs.length : Int) ≤ 100000 := by
  obtain ⟨_, _, h0, h1, _⟩ := Code.facts hc
  obtain ⟨_, e1, _⟩ := Inst.few_of hx
  have : (c.slots * x.qs.length : Int) ≤ 100 * 1000 := Int.mul_le_mul h1 (by omega) (by omega) (by omega)
  exact ⟨Int.mul_nonneg h0 (by omega), by omega⟩
section
variable (w : World)
set_option maxRecDepth 100000 in
set_option maxHeartbeats 8000000 in
theorem spec_StartState (u v1 : Value) (c : Code) (hc : ReadCode w u c) (x : Inst) (hx : ReadInst w v1 x) (kv : Nat) (hcv : c.valid = true) (hxv : x.valid = true) (hkv : kv < x.vs.length) (F : Nat → Prop) (hF : ∀ b, F b → b < w.heap.size) :
    Calls Tryz.prog 75 #[u, v1, .int .i64 kv] w fun e w' => ∃ t, e = .returned t ∧ ReadStN w' t (startS c x kv) F ∧ Below w.heap.size w w' := by
  have HX := sA (And.intro hc hx); have HFF := sA hF; clear hF
  obtain ⟨f0, f1, f2, hnear⟩ := Inst.few_near hxv
  have hcc : ∀ (W : World) (u : Value), ReadCode W u c → Calls Tryz.prog 40 #[u] W fun e w' => e = .returned (.bool true) ∧ Below W.heap.size W w' := fun W u h => hcv ▸ spec_ValidCode W u c h
  have hxx : ∀ (W : World) (u : Value), ReadInst W u x → Calls Tryz.prog 46 #[u] W fun e w' => e = .returned (.bool true) ∧ Below W.heap.size W w' := fun W u h => hxv ▸ spec_validInst W u x h
  have hin : ∀ (W : World), Calls Tryz.prog 47 #[.int .i64 kv, .int .i64 0, .int .i64 ((x.vs.length : Int) - 1)] W fun e w' => e = .returned (.bool true) ∧ W = w' := fun W => (show inB kv 0 ((x.vs.length : Int) - 1) = true from (inB_iff _ _ _).2 ⟨by omega, by omega⟩) ▸ spec_l1In W kv 0 ((x.vs.length : Int) - 1)
  have HCC := sA (And.intro hcc (And.intro hxx hin)); clear hcc hxx hin
  have hsl := slots_small hcv hxv
  have hcf := Code.facts hcv
  have HKB := sA (And.intro hcf.1 hcf.2.1)
  have HSL := sA hsl
  have HV := sA (And.intro hcv (And.intro hxv hkv))
  have qsl : IntKind.i64.wrap (c.slots * (x.qs.length : Int)) = c.slots * (x.qs.length : Int) := IntWalk.i64_in _ (by omega)
  have hkvI : (kv : Int) < (x.vs.length : Int) := by omega
  have hpl := Inst.place_v hkv
  obtain ⟨A0, c0, A1, c1, A2, c2, rfl, a0, a1, a2⟩ := hc
  obtain ⟨B0, d0, B1, d1, B2, d2, rfl, b0, b1, b2⟩ := hx
  obtain ⟨ad, e0, t0, t1⟩ := Kd.flat_cells (d := kVeh) rfl b0 zV kv hkv
  cases e0
  have ZS := sA (t1 0 _ rfl)
  have ZO := sA (t1 3 _ rfl)
  rw [← hpl] at ZO
  generalize ho : (x.placeAt kv).o = po at ZO
  have HO := sA ho
  generalize hsk : (x.vs.getD kv zV).skills = sk at ZS
  have HSK := sA hsk
  have HBK := sA a0
  clear ho hpl hsk a0 a1 a2 b0 b1 b2 t0 t1 hsl hcf hnear
  obtain ⟨HB0, HKC0, HKI0, HKS0, HZ0⟩ := opens3 w (.cells #[.int .i64 c.regs, .int .i64 c.slots, .slice A0 c.b0.length c0, .slice A1 c.b1.length c1, .slice A2 c.b2.length c2] 41) (.cells #[.slice (some ad) x.vs.length d0, .slice B1 x.qs.length d1, .slice B2 x.rs.length d2] 47) (.cells #[.int .i64 0, .int .i64 0, .int .i64 0, .int .i64 0, .int .i64 0, .int .i64 0, .slice none 0 0, .slice none 0 0, .slice none 0 0] 49)
  have HGKC := sA (show w.heap.size ≤ w.heap.size from Nat.le_add_right _ 0)
  have HGKI := sA (show w.heap.size ≤ w.heap.size + 1 from Nat.le_add_right _ 1)
  have HGKS := sA (show w.heap.size ≤ w.heap.size + 1 + 1 from Nat.le_add_right _ 2)
  have HSZ0 := sA (Nat.le_refl (((w.alloc (.cells #[.int .i64 c.regs, .int .i64 c.slots, .slice A0 c.b0.length c0, .slice A1 c.b1.length c1, .slice A2 c.b2.length c2] 41)).alloc (.cells #[.slice (some ad) x.vs.length d0, .slice B1 x.qs.length d1, .slice B2 x.rs.length d2] 47)).alloc (.cells #[.int .i64 0, .int .i64 0, .int .i64 0, .int .i64 0, .int .i64 0, .int .i64 0, .slice none 0 0, .slice none 0 0, .slice none 0 0] 49)).heap.size)
  go_enter Tryz.func75, Tryz.ntmps75
  go_wp2_with fail
  go_at_call 40
  refine (HCC.out.1 _ _ (HX.out.1.below HB0.out)).mono ?_
  rintro e w1 ⟨rfl, hb⟩
  have HB1 := sA (bC HB0.out hb); have HKC1 := sA (bB HKC0.out hb); have HKI1 := sA (bB HKI0.out hb); have HKS1 := sA (bB HKS0.out hb); have HSZ1 := sA (Nat.le_trans HSZ0.out hb.size); clear hb
  obtain ⟨kc1, kc2⟩ := lay0 HKC1.out
  obtain ⟨ki1, ki2⟩ := lay0 HKI1.out
  obtain ⟨ks1, ks2⟩ := lay0 HKS1.out
  go_wp2_with fail
  clear kc1 kc2 ki1 ki2 ks1 ks2
  go_at_call 46
  refine (HCC.out.2.1 _ _ (HX.out.2.below HB1.out)).mono ?_
  rintro e w2 ⟨rfl, hb⟩
  have HB2 := sA (bC HB1.out hb); have HKC2 := sA (bB HKC1.out hb); have HKI2 := sA (bB HKI1.out hb); have HKS2 := sA (bB HKS1.out hb); have HSZ2 := sA (Nat.le_trans HSZ1.out hb.size); clear hb
  obtain ⟨kc1, kc2⟩ := lay0 HKC2.out
  obtain ⟨ki1, ki2⟩ := lay0 HKI2.out
  obtain ⟨ks1, ks2⟩ := lay0 HKS2.out
  go_wp2_with fail
  clear kc1 kc2 ki1 ki2 ks1 ks2
  go_at_call 47
  refine (HCC.out.2.2 _).mono ?_
  rintro e w' ⟨rfl, rfl⟩
  obtain ⟨kc1, kc2⟩ := lay0 HKC2.out
  obtain ⟨ki1, ki2⟩ := lay0 HKI2.out
  obtain ⟨ks1, ks2⟩ := lay0 HKS2.out
  go_wp2_with fail
  clear kc1 kc2 ki1 ki2 ks1 ks2
  refine Grow.wp_region_deps 22 ⟨[(2, 32), (5, 35), (6, 36), (7, 37), (12, 42), (20, 50), (21, 8)], fun i v lo hi W => GAt [(2, RowP w2.heap.size (zeroS c.regs)), (5, RowP w2.heap.size []), (6, RowP w2.heap.size (startA x kv)), (7, RowP w2.heap.size (startM c x kv).regs), (12, RowP w2.heap.size (zeroS (c.slots * x.qs.length))), (20, AggP (fun vs => .agg #[vs.getD 0 undef, vs.getD 1 undef, .int .i64 0, .int .i64 sk, .int .i64 (-1), .int .i64 x.qs.length, .int .i64 (-1)]) w2.heap.size [(startM c x kv).regs, zeroS (c.slots * x.qs.length)]), (21, BoxG #[.slice none 0 0, .slice none 0 0, .int .i64 0, .int .i64 0, .int .i64 0, .int .i64 0, .int .i64 0] 73)] i v lo W, fun i v lo hi W W' hb h => GAt.stays (l := [(2, RowP w2.heap.size (zeroS c.regs)), (5, RowP w2.heap.size []), (6, RowP w2.heap.size (startA x kv)), (7, RowP w2.heap.size (startM c x kv).regs), (12, RowP w2.heap.size (zeroS (c.slots * x.qs.length))), (20, AggP (fun vs => .agg #[vs.getD 0 undef, vs.getD 1 undef, .int .i64 0, .int .i64 sk, .int .i64 (-1), .int .i64 x.qs.length, .int .i64 (-1)]) w2.heap.size [(startM c x kv).regs, zeroS (c.slots * x.qs.length)]), (21, BoxG #[.slice none 0 0, .slice none 0 0, .int .i64 0, .int .i64 0, .int .i64 0, .int .i64 0, .int .i64 0] 73)]) ⟨RowP.stays _ _, RowP.stays _ _, RowP.stays _ _, RowP.stays _ _, RowP.stays _ _, AggP.stays _ _ _, BoxG.stays _ _, trivial⟩ i v lo hi W W' hb h⟩ (by kernel_rfl) (show List.Pairwise (fun p q : Nat × Tmp => p.1 ≠ q.1 ∧ p.2 ≠ q.2) [(2, 32), (5, 35), (6, 36), (7, 37), (12, 42), (20, 50), (21, 8)] from by decide) (by kernel_rfl) (by rfl) ?_
  dsimp only [List.take, List.drop]
  repeat (refine Grow.lexD_do _ (by rfl) (by rfl) (by intro W hj; obtain ⟨kc1, kc2⟩ := lay hj.out HKC2.out; obtain ⟨ki1, ki2⟩ := lay hj.out HKI2.out; obtain ⟨ks1, ks2⟩ := lay hj.out HKS2.out; have cZS := pC (bC HB2.out hj.out) ZS.out; go_simp; first | exact Grow.UponB.val) ?_; refine Grow.lexD_norm (fun K hK => ?_); go_simp; refine hK _ ?_; clear hK K)
  refine Grow.lexD_make (by rfl) (by rfl) (by intro u lo hi W hj hd; have hlow : w2.heap.size ≤ W.heap.size := hj.out.size; obtain ⟨kc1, kc2⟩ := lay hj.out HKC2.out; obtain ⟨ki1, ki2⟩ := lay hj.out HKI2.out; obtain ⟨ks1, ks2⟩ := lay hj.out HKS2.out; have cZS := pC (bC HB2.out hj.out) ZS.out; dsimp only [Grow.fillM, List.foldl]; go_simp; have cc := spec_zerosI W c.regs (by have := HKB.out; omega) (by have := HKB.out; omega); refine Grow.UponB.made ?_; (with_reducible refine Calls.mono cc ?_); rintro e w' ⟨v, rfl, hr, hb⟩; exact ⟨_, rfl, GAt.mk (P := RowP w2.heap.size (zeroS c.regs)) (Kd.R_lower hr hlow) (by intro p hp he; simp only [List.mem_cons, List.not_mem_nil, or_false] at hp; rcases hp with rfl | rfl | rfl | rfl | rfl | rfl | rfl <;> first | rfl | exact absurd he (by simp)), hb⟩) ?_
  refine Grow.lexD_norm (fun K hK => ?_); go_simp; refine hK _ ?_; clear hK K
  repeat (refine Grow.lexD_do _ (by rfl) (by rfl) (by intro W hj; obtain ⟨kc1, kc2⟩ := lay hj.out HKC2.out; obtain ⟨ki1, ki2⟩ := lay hj.out HKI2.out; obtain ⟨ks1, ks2⟩ := lay hj.out HKS2.out; have cZS := pC (bC HB2.out hj.out) ZS.out; go_simp; first | exact Grow.UponB.val) ?_; refine Grow.lexD_norm (fun K hK => ?_); go_simp; refine hK _ ?_; clear hK K)
  refine Grow.lexD_make (by rfl) (by rfl) (by intro u lo hi W hj hd; have hlow : w2.heap.size ≤ W.heap.size := hj.out.size; obtain ⟨kc1, kc2⟩ := lay hj.out HKC2.out; obtain ⟨ki1, ki2⟩ := lay hj.out HKI2.out; obtain ⟨ks1, ks2⟩ := lay hj.out HKS2.out; have cZS := pC (bC HB2.out hj.out) ZS.out; dsimp only [Grow.fillM, List.foldl]; go_simp; refine Grow.UponB.boxR ?_; exact GAt.mk (P := RowP w2.heap.size []) (lit_empty W w2.heap.size hlow) (by intro p hp he; simp only [List.mem_cons, List.not_mem_nil, or_false] at hp; rcases hp with rfl | rfl | rfl | rfl | rfl | rfl | rfl <;> first | rfl | exact absurd he (by simp))) ?_
  refine Grow.lexD_norm (fun K hK => ?_); go_simp; refine hK _ ?_; clear hK K
  refine Grow.lexD_make (by rfl) (by rfl) (by intro u lo hi W hj hd; have hlow : w2.heap.size ≤ W.heap.size := hj.out.size; obtain ⟨kc1, kc2⟩ := lay hj.out HKC2.out; obtain ⟨ki1, ki2⟩ := lay hj.out HKI2.out; obtain ⟨ks1, ks2⟩ := lay hj.out HKS2.out; have cZS := pC (bC HB2.out hj.out) ZS.out; have h5 : kInt.R 2 W w2.heap.size (fun _ => True) (u 5) [] := ((hd 5 rfl (by kernel_rfl)).at (P := RowP w2.heap.size []) (by simp)); obtain ⟨A5, c5, hu, _, hC⟩ := Kd.R_reads h5; have hu5 : ReadInts W (u 5) [] := ⟨A5, c5, hu, hC⟩; clear h5 hu hC; dsimp only [Grow.fillM, List.foldl]; go_simp; have cc := spec_attrs0 W _ (u 5) x (HX.out.2.below (bC HB2.out hj.out)) kv hu5 HV.out.2.1 HV.out.2.2; refine Grow.UponB.made ?_; (with_reducible refine Calls.mono cc ?_); rintro e w' ⟨v, rfl, hr, hb⟩; exact ⟨_, rfl, GAt.mk (P := RowP w2.heap.size (startA x kv)) (Kd.R_lower hr hlow) (by intro p hp he; simp only [List.mem_cons, List.not_mem_nil, or_false] at hp; rcases hp with rfl | rfl | rfl | rfl | rfl | rfl | rfl <;> first | rfl | exact absurd he (by simp)), hb⟩) ?_
  refine Grow.lexD_norm (fun K hK => ?_); go_simp; refine hK _ ?_; clear hK K
  refine Grow.lexD_make (by rfl) (by rfl) (by intro u lo hi W hj hd; have hlow : w2.heap.size ≤ W.heap.size := hj.out.size; obtain ⟨kc1, kc2⟩ := lay hj.out HKC2.out; obtain ⟨ki1, ki2⟩ := lay hj.out HKI2.out; obtain ⟨ks1, ks2⟩ := lay hj.out HKS2.out; have cZS := pC (bC HB2.out hj.out) ZS.out; have h2 : kInt.R 2 W w2.heap.size (fun _ => True) (u 2) (zeroS c.regs) := ((hd 2 rfl (by kernel_rfl)).at (P := RowP w2.heap.size (zeroS c.regs)) (by simp)); obtain ⟨A4, c4, hu2, hcap, hC2⟩ := Kd.R_reads h2; have h6 : kInt.R 2 W w2.heap.size (fun _ => True) (u 6) (startA x kv) := ((hd 6 rfl (by kernel_rfl)).at (P := RowP w2.heap.size (startA x kv)) (by simp)); obtain ⟨A5, c5, hu6, _, hC6⟩ := Kd.R_reads h6; clear h2 h6; dsimp only [Grow.fillM, List.foldl]; go_simp; have hzl := zeroS_len (n := c.regs) (by have := HKB.out; omega); have cc := spec_over W A4 A5 c4 c5 (zeroS c.regs) (startA x kv) hC2 hC6 hcap (by have := HKB.out; omega) (by have := HKB.out; omega) (by rw [startA_len]; omega); refine Grow.UponB.made ?_; (with_reducible refine Calls.mono cc ?_); rintro e w' ⟨v, rfl, hr, hb⟩; exact ⟨_, rfl, GAt.mk (P := RowP w2.heap.size (startM c x kv).regs) (Kd.R_lower hr hlow) (by intro p hp he; simp only [List.mem_cons, List.not_mem_nil, or_false] at hp; rcases hp with rfl | rfl | rfl | rfl | rfl | rfl | rfl <;> first | rfl | exact absurd he (by simp)), hb⟩) ?_
  refine Grow.lexD_norm (fun K hK => ?_); go_simp; refine hK _ ?_; clear hK K
  repeat (refine Grow.lexD_do _ (by rfl) (by rfl) (by intro W hj; obtain ⟨kc1, kc2⟩ := lay hj.out HKC2.out; obtain ⟨ki1, ki2⟩ := lay hj.out HKI2.out; obtain ⟨ks1, ks2⟩ := lay hj.out HKS2.out; have cZS := pC (bC HB2.out hj.out) ZS.out; go_simp; first | exact Grow.UponB.val) ?_; refine Grow.lexD_norm (fun K hK => ?_); go_simp; refine hK _ ?_; clear hK K)
  refine Grow.lexD_make (by rfl) (by rfl) (by intro u lo hi W hj hd; have hlow : w2.heap.size ≤ W.heap.size := hj.out.size; obtain ⟨kc1, kc2⟩ := lay hj.out HKC2.out; obtain ⟨ki1, ki2⟩ := lay hj.out HKI2.out; obtain ⟨ks1, ks2⟩ := lay hj.out HKS2.out; have cZS := pC (bC HB2.out hj.out) ZS.out; dsimp only [Grow.fillM, List.foldl]; go_simp; have cc := spec_zerosI W (c.slots * x.qs.length) HSL.out.1 (by have := HSL.out.2; omega); refine Grow.UponB.made ?_; (with_reducible refine Calls.mono cc ?_); rintro e w' ⟨v, rfl, hr, hb⟩; exact ⟨_, rfl, GAt.mk (P := RowP w2.heap.size (zeroS (c.slots * x.qs.length))) (Kd.R_lower hr hlow) (by intro p hp he; simp only [List.mem_cons, List.not_mem_nil, or_false] at hp; rcases hp with rfl | rfl | rfl | rfl | rfl | rfl | rfl <;> first | rfl | exact absurd he (by simp)), hb⟩) ?_
  refine Grow.lexD_norm (fun K hK => ?_); go_simp; refine hK _ ?_; clear hK K
  repeat (refine Grow.lexD_do _ (by rfl) (by rfl) (by intro W hj; obtain ⟨kc1, kc2⟩ := lay hj.out HKC2.out; obtain ⟨ki1, ki2⟩ := lay hj.out HKI2.out; obtain ⟨ks1, ks2⟩ := lay hj.out HKS2.out; have cZS := pC (bC HB2.out hj.out) ZS.out; go_simp; first | exact Grow.UponB.val) ?_; refine Grow.lexD_norm (fun K hK => ?_); go_simp; refine hK _ ?_; clear hK K)
  refine Grow.lexD_make (by rfl) (by rfl) (by intro u lo hi W hj hd; have hlow : w2.heap.size ≤ W.heap.size := hj.out.size; obtain ⟨kc1, kc2⟩ := lay hj.out HKC2.out; obtain ⟨ki1, ki2⟩ := lay hj.out HKI2.out; obtain ⟨ks1, ks2⟩ := lay hj.out HKS2.out; have cZS := pC (bC HB2.out hj.out) ZS.out; have h7 : kInt.R 2 W w2.heap.size (fun _ => True) (u 7) (startM c x kv).regs := ((hd 7 rfl (by kernel_rfl)).at (P := RowP w2.heap.size (startM c x kv).regs) (by simp)); obtain ⟨A7, c7, hu7⟩ := Kd.R_slice h7; have h12 : kInt.R 2 W w2.heap.size (fun _ => True) (u 12) (zeroS (c.slots * x.qs.length)) := ((hd 12 rfl (by kernel_rfl)).at (P := RowP w2.heap.size (zeroS (c.slots * x.qs.length))) (by simp)); obtain ⟨A12, c12, hu12⟩ := Kd.R_slice h12; rw [hu7] at h7; rw [hu12] at h12; dsimp only [Grow.fillM, List.foldl]; go_simp; refine Grow.UponB.valR ?_; exact GAt.mk (P := AggP (fun vs => .agg #[vs.getD 0 undef, vs.getD 1 undef, .int .i64 0, .int .i64 sk, .int .i64 (-1), .int .i64 x.qs.length, .int .i64 (-1)]) w2.heap.size [(startM c x kv).regs, zeroS (c.slots * x.qs.length)]) (⟨[.slice A7 _ c7, .slice A12 _ c12], rfl, rfl, fun k hk => by rcases (show k = 0 ∨ k = 1 by simp at hk; omega) with rfl | rfl; exact h7; exact h12⟩) (by intro p hp he; simp only [List.mem_cons, List.not_mem_nil, or_false] at hp; rcases hp with rfl | rfl | rfl | rfl | rfl | rfl | rfl <;> first | rfl | exact absurd he (by simp))) ?_
  refine Grow.lexD_norm (fun K hK => ?_); go_simp; refine hK _ ?_; clear hK K
  refine Grow.lexD_make (by rfl) (by rfl) (by intro u lo hi W hj hd; have hlow : w2.heap.size ≤ W.heap.size := hj.out.size; obtain ⟨kc1, kc2⟩ := lay hj.out HKC2.out; obtain ⟨ki1, ki2⟩ := lay hj.out HKI2.out; obtain ⟨ks1, ks2⟩ := lay hj.out HKS2.out; have cZS := pC (bC HB2.out hj.out) ZS.out; dsimp only [Grow.fillM, List.foldl]; go_simp; refine Grow.UponB.boxR ?_; exact GAt.mk (P := BoxG #[.slice none 0 0, .slice none 0 0, .int .i64 0, .int .i64 0, .int .i64 0, .int .i64 0, .int .i64 0] 73) (⟨rfl, al_new W _⟩) (by intro p hp he; simp only [List.mem_cons, List.not_mem_nil, or_false] at hp; rcases hp with rfl | rfl | rfl | rfl | rfl | rfl | rfl <;> first | rfl | exact absurd he (by simp))) ?_
  refine Grow.lexD_norm (fun K hK => ?_); go_simp; refine hK _ ?_; clear hK K
  refine Grow.lexD_nil (fun u lo hi w3 hj hG hord => ?_)
  obtain ⟨vs, hu20, hvl, hvs⟩ := (show AggP (fun vs => .agg #[vs.getD 0 undef, vs.getD 1 undef, .int .i64 0, .int .i64 sk, .int .i64 (-1), .int .i64 x.qs.length, .int .i64 (-1)]) w2.heap.size [(startM c x kv).regs, zeroS (c.slots * x.qs.length)] (u 20) (lo 20) w3 from ((hG 20 rfl).1).at (by simp))
  obtain ⟨hu21, hzm⟩ := (show BoxG #[.slice none 0 0, .slice none 0 0, .int .i64 0, .int .i64 0, .int .i64 0, .int .i64 0, .int .i64 0] 73 (u 21) (lo 21) w3 from ((hG 21 rfl).1).at (by simp))
  have hlo := (hG 21 rfl).2.1
  have hR7 : kInt.R 2 w3 w2.heap.size (fun _ => True) (vs.getD 0 undef) (startM c x kv).regs := hvs 0 (by simp)
  have hR12 : kInt.R 2 w3 w2.heap.size (fun _ => True) (vs.getD 1 undef) (startM c x kv).slots := hvs 1 (by simp)
  clear hG hord hvs
  dsimp only [List.foldl]
  dsimp only at hu20
  rw [hu20, hu21]
  generalize vs.getD 0 undef = v7 at *
  generalize vs.getD 1 undef = v12 at *
  generalize lo 21 = mb at *
  clear hu20 hu21 hvl vs lo hi
  obtain ⟨AR, cR, rfl, hcR, hCR⟩ := Kd.R_reads hR7
  obtain ⟨AS, cS, rfl, _, hCS⟩ := Kd.R_reads hR12
  have hmb : w.heap.size + 3 ≤ mb := by have h1 := HSZ2.out; have h2 := HZ0.out; omega
  have HMB := sA hmb; have HGM := sA (show w.heap.size ≤ mb by omega)
  have HNr := sA (show NotIn AR (startM c x kv).regs.length (fun k => k = mb ∨ k = w.heap.size + 1 + 1 ∨ F k) from fun a he hp hh => by have := row_ge hR7 a he hp; have h1 := HSZ2.out; have h2 := HZ0.out; rcases hh with hh | hh | hh; exact row_ne hR7 hzm (by decide) a he hp hh; omega; have := HFF.out _ hh; omega)
  have HNs := sA (show NotIn AS (startM c x kv).slots.length (fun k => k = mb ∨ k = w.heap.size + 1 + 1 ∨ F k) from fun a he hp hh => by have := row_ge hR12 a he hp; have h1 := HSZ2.out; have h2 := HZ0.out; rcases hh with hh | hh | hh; exact row_ne hR12 hzm (by decide) a he hp hh; omega; have := HFF.out _ hh; omega)
  have HCr3 := sA hCR; have HCs3 := sA hCS; have HKM3 := sA hzm; have HCP := sA hcR
  clear hmb hR7 hR12 hCR hCS hzm hcR hlo qsl
  refine wpl_norm (fun K hK => ?_); go_simp; refine hK _ ?_; clear hK K
  have hb := hj.out; clear hj
  have HB3 := sA (bC HB2.out hb); have HKC3 := sA (bB HKC2.out hb); have HKI3 := sA (bB HKI2.out hb); have HKS3 := sA (bB HKS2.out hb); have HSZ3 := sA (Nat.le_trans HSZ2.out hb.size); clear hb
  obtain ⟨kc1, kc2⟩ := lay0 HKC3.out
  obtain ⟨ki1, ki2⟩ := lay0 HKI3.out
  obtain ⟨ks1, ks2⟩ := lay0 HKS3.out
  obtain ⟨km1, km2⟩ := lay0 HKM3.out
  go_wp2_with ((with_reducible refine gate_store (t := 73) (p := 8) rfl ?_); refine wpList_putAll rfl rfl _ _ _ rfl (g := mb) [.slice AR (startM c x kv).regs.length cR, .slice AS (startM c x kv).slots.length cS, .int .i64 0, .int .i64 sk, .int .i64 (-1), .int .i64 x.qs.length, .int .i64 (-1)] rfl rfl (by kernel_rfl) (one_all rfl) HKM3.out rfl ?_; intro w4 hX hT hz; clear hz; clear kc1 kc2 ki1 ki2 ks1 ks2 km1 km2; have HCr4 := sA (c_tch HCr3.out HNr.out hT (by first | exact Or.inl rfl | exact Or.inr (Or.inl rfl) | exact rfl)); have HCs4 := sA (c_tch HCs3.out HNs.out hT (by first | exact Or.inl rfl | exact Or.inr (Or.inl rfl) | exact rfl)); (try simp only [List.setIfInBounds_toArray, List.set_cons_zero, List.set_cons_succ] at hX); have HB4 := sA (hT.below w (fun k hk => by rw [hk]; exact HGM.out) HB3.out); have HKC4 := sA (tK hT HKM3.out HKC3.out (by decide)); have HKI4 := sA (tK hT HKM3.out HKI3.out (by decide)); have HKS4 := sA (tK hT HKM3.out HKS3.out (by decide)); have HSZ4 := sA (Nat.le_trans HSZ3.out hT.size); have HKM4 := sA hX; clear hX hT; obtain ⟨kc1, kc2⟩ := lay0 HKC4.out; obtain ⟨ki1, ki2⟩ := lay0 HKI4.out; obtain ⟨ks1, ks2⟩ := lay0 HKS4.out; obtain ⟨km1, km2⟩ := lay0 HKM4.out)
  clear kc1 kc2 ki1 ki2 ks1 ks2 km1 km2
  have hcall := spec_exec A0 c0 c.b0 (envOf x kv (-1)) (Code.facts hcv).2.2.2.2.1 (Code.facts hcv).2.1 (Code.facts hcv).2.2.1 (Code.facts hcv).2.2.2.1 c.b0.length 0 (startM c x kv) (by omega) (start_mok hcv hxv hkv) w4 AR cR AS cS (fun k => k = mb ∨ k = w.heap.size + 1 + 1 ∨ F k) (Kd.C_below HBK.out HB4.out) HCr4.out HCs4.out HNr.out HNs.out (fun k hk => by rcases hk with rfl | rfl | hk; exact blk_lt HKM4.out; exact blk_lt HKS4.out; exact Nat.lt_of_lt_of_le (HFF.out k hk) HB4.out.size) HCP.out
  have hE : envOf x kv (-1) = ⟨0, sk, -1, x.qs.length⟩ := by unfold envOf; rw [HSK.out]; rfl
  have hST := show startS c x kv = if 0 ≤ (runB (envOf x kv (-1)) c.b0 (startM c x kv)).rule then failS 0 (runB (envOf x kv (-1)) c.b0 (startM c x kv)).rule else liveS x kv (runB (envOf x kv (-1)) c.b0 (startM c x kv)) from rfl
  unfold runB at hST
  rw [hE] at hcall hST
  generalize exec ⟨0, sk, -1, x.qs.length⟩ c.b0 c.b0.length 0 (startM c x kv) = mF at hcall hST
  have HST := sA hST
  simp only [memV] at hcall
  clear hE hST
  go_at_call 29
  refine hcall.mono ?_
  rintro e w5 ⟨⟨A4, c4, A5, c5, rfl, hC4, hC5, hN4, hN5, hcap⟩, hb⟩
  clear hcall
  have HB5 := sA (bC HB4.out hb); have HKC5 := sA (bB HKC4.out hb); have HKI5 := sA (bB HKI4.out hb); have HKS5 := sA (bB HKS4.out hb); have HKM5 := sA (bB HKM4.out hb); have HSZ5 := sA (Nat.le_trans HSZ4.out hb.size); clear hb
  have HCr5 := sA hC4; have HCs5 := sA hC5; clear HNr HNs HCP; have HNr := sA hN4; have HNs := sA hN5; have HCP := sA hcap; clear hC4 hC5 hN4 hN5 hcap
  by_cases hr : 0 ≤ mF.rule
  · have p6 : decide (0 ≤ mF.rule) = true := decide_eq_true hr
    have HL := sA (show startS c x kv = failS 0 mF.rule by rw [HST.out, if_pos hr]); clear hr
    obtain ⟨kc1, kc2⟩ := lay0 HKC5.out
    obtain ⟨ki1, ki2⟩ := lay0 HKI5.out
    obtain ⟨ks1, ks2⟩ := lay0 HKS5.out
    obtain ⟨km1, km2⟩ := lay0 HKM5.out
    go_wp2_with (first | ((with_reducible refine gate_store (t := 73) (p := 8) rfl ?_); refine wpList_putAll rfl rfl _ _ _ rfl (g := mb) [.slice A4 mF.regs.length c4, .slice A5 mF.slots.length c5, .int .i64 0, .int .i64 sk, .int .i64 (-1), .int .i64 x.qs.length, .int .i64 mF.rule] rfl rfl (by kernel_rfl) (one_all rfl) HKM5.out rfl ?_; intro w6 hX hT hz; clear hz; clear kc1 kc2 ki1 ki2 ks1 ks2 km1 km2; have HCr6 := sA (c_tch HCr5.out HNr.out hT (by first | exact Or.inl rfl | exact Or.inr (Or.inl rfl) | exact rfl)); have HCs6 := sA (c_tch HCs5.out HNs.out hT (by first | exact Or.inl rfl | exact Or.inr (Or.inl rfl) | exact rfl)); (try simp only [List.setIfInBounds_toArray, List.set_cons_zero, List.set_cons_succ] at hX); have HB6 := sA (hT.below w (fun k hk => by rw [hk]; exact HGM.out) HB5.out); have HKC6 := sA (tK hT HKM5.out HKC5.out (by decide)); have HKI6 := sA (tK hT HKM5.out HKI5.out (by decide)); have HKS6 := sA (tK hT HKM5.out HKS5.out (by decide)); have HSZ6 := sA (Nat.le_trans HSZ5.out hT.size); have HKM6 := sA hX; clear hX hT; obtain ⟨kc1, kc2⟩ := lay0 HKC6.out; obtain ⟨ki1, ki2⟩ := lay0 HKI6.out; obtain ⟨ks1, ks2⟩ := lay0 HKS6.out; obtain ⟨km1, km2⟩ := lay0 HKM6.out) | (go_at_call 113; fail))
    clear kc1 kc2 ki1 ki2 ks1 ks2 km1 km2
    go_at_call 113
    refine (spec_failed _ 0 mF.rule).mono ?_
    rintro e w7 ⟨rfl, hb⟩
    have HB7 := sA (bC HB6.out hb); have HKC7 := sA (bB HKC6.out hb); have HKI7 := sA (bB HKI6.out hb); have HKS7 := sA (bB HKS6.out hb); have HKM7 := sA (bB HKM6.out hb); have HSZ7 := sA (Nat.le_trans HSZ6.out hb.size); have HCr7 := sA (Kd.C_below HCr6.out hb); have HCs7 := sA (Kd.C_below HCs6.out hb); clear hb
    obtain ⟨kc1, kc2⟩ := lay0 HKC7.out
    obtain ⟨ki1, ki2⟩ := lay0 HKI7.out
    obtain ⟨ks1, ks2⟩ := lay0 HKS7.out
    obtain ⟨km1, km2⟩ := lay0 HKM7.out
    go_wp2_with ((with_reducible refine gate_store (t := 49) (p := 6) rfl ?_); refine wpList_putAll rfl rfl _ _ _ rfl (g := w.heap.size + 1 + 1) [.int .i64 0, .int .i64 mF.rule, .int .i64 0, .int .i64 0, .int .i64 0, .int .i64 0, .slice none 0 0, .slice none 0 0, .slice none 0 0] rfl rfl (by kernel_rfl) (one_all rfl) HKS7.out rfl ?_; intro w8 hX hT hz; clear hz; clear kc1 kc2 ki1 ki2 ks1 ks2 km1 km2; have HCr8 := sA (c_tch HCr7.out HNr.out hT (by first | exact Or.inl rfl | exact Or.inr (Or.inl rfl) | exact rfl)); have HCs8 := sA (c_tch HCs7.out HNs.out hT (by first | exact Or.inl rfl | exact Or.inr (Or.inl rfl) | exact rfl)); (try simp only [List.setIfInBounds_toArray, List.set_cons_zero, List.set_cons_succ] at hX); have HB8 := sA (hT.below w (fun k hk => by rw [hk]; exact HGKS.out) HB7.out); have HKC8 := sA (tK hT HKS7.out HKC7.out (by decide)); have HKI8 := sA (tK hT HKS7.out HKI7.out (by decide)); have HKM8 := sA (tK hT HKS7.out HKM7.out (by decide)); have HSZ8 := sA (Nat.le_trans HSZ7.out hT.size); have HKS8 := sA hX; clear hX hT; obtain ⟨kc1, kc2⟩ := lay0 HKC8.out; obtain ⟨ki1, ki2⟩ := lay0 HKI8.out; obtain ⟨ks1, ks2⟩ := lay0 HKS8.out; obtain ⟨km1, km2⟩ := lay0 HKM8.out)
    clear kc1 kc2 ki1 ki2 ks1 ks2 km1 km2
    refine bodyPost_ret (results_cell Tryz.results75 rfl HKS8.out Tryz.underlying49 rfl (by kernel_rfl)) rfl ?_
    exact ⟨_, rfl, HL.out ▸ readStN_failed _ 0 mF.rule F, HB8.out⟩
  · have p6 : decide (0 ≤ mF.rule) = false := decide_eq_false hr
    have HL := sA (show startS c x kv = liveS x kv mF by rw [HST.out, if_neg hr]); clear hr
    obtain ⟨kc1, kc2⟩ := lay0 HKC5.out
    obtain ⟨ki1, ki2⟩ := lay0 HKI5.out
    obtain ⟨ks1, ks2⟩ := lay0 HKS5.out
    obtain ⟨km1, km2⟩ := lay0 HKM5.out
    go_wp2_with ((with_reducible refine gate_store (t := 73) (p := 8) rfl ?_); refine wpList_putAll rfl rfl _ _ _ rfl (g := mb) [.slice A4 mF.regs.length c4, .slice A5 mF.slots.length c5, .int .i64 0, .int .i64 sk, .int .i64 (-1), .int .i64 x.qs.length, .int .i64 mF.rule] rfl rfl (by kernel_rfl) (one_all rfl) HKM5.out rfl ?_; intro w6 hX hT hz; clear hz; clear kc1 kc2 ki1 ki2 ks1 ks2 km1 km2; have HCr6 := sA (c_tch HCr5.out HNr.out hT (by first | exact Or.inl rfl | exact Or.inr (Or.inl rfl) | exact rfl)); have HCs6 := sA (c_tch HCs5.out HNs.out hT (by first | exact Or.inl rfl | exact Or.inr (Or.inl rfl) | exact rfl)); (try simp only [List.setIfInBounds_toArray, List.set_cons_zero, List.set_cons_succ] at hX); have HB6 := sA (hT.below w (fun k hk => by rw [hk]; exact HGM.out) HB5.out); have HKC6 := sA (tK hT HKM5.out HKC5.out (by decide)); have HKI6 := sA (tK hT HKM5.out HKI5.out (by decide)); have HKS6 := sA (tK hT HKM5.out HKS5.out (by decide)); have HSZ6 := sA (Nat.le_trans HSZ5.out hT.size); have HKM6 := sA hX; clear hX hT; obtain ⟨kc1, kc2⟩ := lay0 HKC6.out; obtain ⟨ki1, ki2⟩ := lay0 HKI6.out; obtain ⟨ks1, ks2⟩ := lay0 HKS6.out; obtain ⟨km1, km2⟩ := lay0 HKM6.out)
    clear kc1 kc2 ki1 ki2 ks1 ks2 km1 km2
    refine Grow.wp_region_deps 15 ⟨[(9, 70), (14, 75)], fun i v lo hi W => GAt [(9, RowP w6.heap.size (zeroS x.qs.length)), (14, AggP (fun vs => .agg #[.int .i64 0, .int .i64 (-1), .int .i64 kv, .int .i64 po, .int .i64 0, .int .i64 0, vs.getD 0 undef, .slice A4 mF.regs.length c4, .slice A5 mF.slots.length c5]) w6.heap.size [zeroS x.qs.length])] i v lo W, fun i v lo hi W W' hb h => GAt.stays (l := [(9, RowP w6.heap.size (zeroS x.qs.length)), (14, AggP (fun vs => .agg #[.int .i64 0, .int .i64 (-1), .int .i64 kv, .int .i64 po, .int .i64 0, .int .i64 0, vs.getD 0 undef, .slice A4 mF.regs.length c4, .slice A5 mF.slots.length c5]) w6.heap.size [zeroS x.qs.length])]) ⟨RowP.stays _ _, AggP.stays _ _ _, trivial⟩ i v lo hi W W' hb h⟩ (by kernel_rfl) (show List.Pairwise (fun p q : Nat × Tmp => p.1 ≠ q.1 ∧ p.2 ≠ q.2) [(9, 70), (14, 75)] from by decide) (by kernel_rfl) (by rfl) ?_
    dsimp only [List.take, List.drop]
    repeat (refine Grow.lexD_do _ (by rfl) (by rfl) (by intro W hj; obtain ⟨kc1, kc2⟩ := lay hj.out HKC6.out; obtain ⟨ki1, ki2⟩ := lay hj.out HKI6.out; obtain ⟨ks1, ks2⟩ := lay hj.out HKS6.out; obtain ⟨km1, km2⟩ := lay hj.out HKM6.out; have cZO := pC (bC HB6.out hj.out) ZO.out; go_simp; first | exact Grow.UponB.val) ?_; refine Grow.lexD_norm (fun K hK => ?_); go_simp; refine hK _ ?_; clear hK K)
    refine Grow.lexD_make (by rfl) (by rfl) (by intro u lo hi W hj hd; have hlow : w6.heap.size ≤ W.heap.size := hj.out.size; obtain ⟨kc1, kc2⟩ := lay hj.out HKC6.out; obtain ⟨ki1, ki2⟩ := lay hj.out HKI6.out; obtain ⟨ks1, ks2⟩ := lay hj.out HKS6.out; obtain ⟨km1, km2⟩ := lay hj.out HKM6.out; have cZO := pC (bC HB6.out hj.out) ZO.out; dsimp only [Grow.fillM, List.foldl]; go_simp; have cc := spec_zerosI W x.qs.length (by omega) (by omega); refine Grow.UponB.made ?_; (with_reducible refine Calls.mono cc ?_); rintro e w' ⟨v, rfl, hr, hb⟩; exact ⟨_, rfl, GAt.mk (P := RowP w6.heap.size (zeroS x.qs.length)) (Kd.R_lower hr hlow) (by intro p hp he; simp only [List.mem_cons, List.not_mem_nil, or_false] at hp; rcases hp with rfl | rfl <;> first | rfl | exact absurd he (by simp)), hb⟩) ?_
    refine Grow.lexD_norm (fun K hK => ?_); go_simp; refine hK _ ?_; clear hK K
    repeat (refine Grow.lexD_do _ (by rfl) (by rfl) (by intro W hj; obtain ⟨kc1, kc2⟩ := lay hj.out HKC6.out; obtain ⟨ki1, ki2⟩ := lay hj.out HKI6.out; obtain ⟨ks1, ks2⟩ := lay hj.out HKS6.out; obtain ⟨km1, km2⟩ := lay hj.out HKM6.out; have cZO := pC (bC HB6.out hj.out) ZO.out; go_simp; first | exact Grow.UponB.val) ?_; refine Grow.lexD_norm (fun K hK => ?_); go_simp; refine hK _ ?_; clear hK K)
    refine Grow.lexD_make (by rfl) (by rfl) (by intro u lo hi W hj hd; have hlow : w6.heap.size ≤ W.heap.size := hj.out.size; obtain ⟨kc1, kc2⟩ := lay hj.out HKC6.out; obtain ⟨ki1, ki2⟩ := lay hj.out HKI6.out; obtain ⟨ks1, ks2⟩ := lay hj.out HKS6.out; obtain ⟨km1, km2⟩ := lay hj.out HKM6.out; have cZO := pC (bC HB6.out hj.out) ZO.out; have h9 : kInt.R 2 W w6.heap.size (fun _ => True) (u 9) (zeroS x.qs.length) := ((hd 9 rfl (by kernel_rfl)).at (P := RowP w6.heap.size (zeroS x.qs.length)) (by simp)); obtain ⟨A9, c9, hu9⟩ := Kd.R_slice h9; rw [hu9] at h9; dsimp only [Grow.fillM, List.foldl]; go_simp; refine Grow.UponB.valR ?_; exact GAt.mk (P := AggP (fun vs => .agg #[.int .i64 0, .int .i64 (-1), .int .i64 kv, .int .i64 po, .int .i64 0, .int .i64 0, vs.getD 0 undef, .slice A4 mF.regs.length c4, .slice A5 mF.slots.length c5]) w6.heap.size [zeroS x.qs.length]) (⟨[.slice A9 _ c9], rfl, rfl, fun k hk => by rcases (show k = 0 by simp at hk; omega) with rfl; exact h9⟩) (by intro p hp he; simp only [List.mem_cons, List.not_mem_nil, or_false] at hp; rcases hp with rfl | rfl <;> first | rfl | exact absurd he (by simp))) ?_
    refine Grow.lexD_norm (fun K hK => ?_); go_simp; refine hK _ ?_; clear hK K
    refine Grow.lexD_nil (fun u lo hi w7 hj hG hord => ?_)
    obtain ⟨vs, hu14, hvl, hvs⟩ := (show AggP (fun vs => .agg #[.int .i64 0, .int .i64 (-1), .int .i64 kv, .int .i64 po, .int .i64 0, .int .i64 0, vs.getD 0 undef, .slice A4 mF.regs.length c4, .slice A5 mF.slots.length c5]) w6.heap.size [zeroS x.qs.length] (u 14) (lo 14) w7 from ((hG 14 rfl).1).at (by simp))
    have hR9 : kInt.R 2 w7 w6.heap.size (fun _ => True) (vs.getD 0 undef) (zeroS x.qs.length) := hvs 0 (by simp)
    clear hG hord hvs
    dsimp only [List.foldl]
    dsimp only at hu14
    rw [hu14]
    generalize vs.getD 0 undef = v9 at *
    clear hu14 hvl vs lo hi
    obtain ⟨A9, c9, rfl⟩ := Kd.R_slice hR9
    have hRz := Kd.R_lower hR9 (show w.heap.size ≤ w6.heap.size from by have h1 := HSZ6.out; have h2 := HZ0.out; omega)
    have HRz7 := sA hRz; clear hR9 hRz
    refine wpl_norm (fun K hK => ?_); go_simp; refine hK _ ?_; clear hK K
    have hb := hj.out; clear hj
    have HB7 := sA (bC HB6.out hb); have HKC7 := sA (bB HKC6.out hb); have HKI7 := sA (bB HKI6.out hb); have HKS7 := sA (bB HKS6.out hb); have HKM7 := sA (bB HKM6.out hb); have HSZ7 := sA (Nat.le_trans HSZ6.out hb.size); have HCr7 := sA (Kd.C_below HCr6.out hb); have HCs7 := sA (Kd.C_below HCs6.out hb); clear hb
    obtain ⟨kc1, kc2⟩ := lay0 HKC7.out
    obtain ⟨ki1, ki2⟩ := lay0 HKI7.out
    obtain ⟨ks1, ks2⟩ := lay0 HKS7.out
    obtain ⟨km1, km2⟩ := lay0 HKM7.out
    go_wp2_with ((with_reducible refine gate_store (t := 49) (p := 6) rfl ?_); refine wpList_putAll rfl rfl _ _ _ rfl (g := w.heap.size + 1 + 1) [.int .i64 0, .int .i64 (-1), .int .i64 kv, .int .i64 po, .int .i64 0, .int .i64 0, .slice A9 (zeroS x.qs.length).length c9, .slice A4 mF.regs.length c4, .slice A5 mF.slots.length c5] rfl rfl (by kernel_rfl) (one_all rfl) HKS7.out rfl ?_; intro w8 hX hT hz; clear hz; clear kc1 kc2 ki1 ki2 ks1 ks2 km1 km2; have HCr8 := sA (c_tch HCr7.out HNr.out hT (by first | exact Or.inl rfl | exact Or.inr (Or.inl rfl) | exact rfl)); have HCs8 := sA (c_tch HCs7.out HNs.out hT (by first | exact Or.inl rfl | exact Or.inr (Or.inl rfl) | exact rfl)); (try simp only [List.setIfInBounds_toArray, List.set_cons_zero, List.set_cons_succ] at hX); have HB8 := sA (hT.below w (fun k hk => by rw [hk]; exact HGKS.out) HB7.out); have HKC8 := sA (tK hT HKS7.out HKC7.out (by decide)); have HKI8 := sA (tK hT HKS7.out HKI7.out (by decide)); have HKM8 := sA (tK hT HKS7.out HKM7.out (by decide)); have HRz8 := sA (row_tch HRz7.out hT HKS7.out (by decide)); have HSZ8 := sA (Nat.le_trans HSZ7.out hT.size); have HKS8 := sA hX; clear hX hT; obtain ⟨kc1, kc2⟩ := lay0 HKC8.out; obtain ⟨ki1, ki2⟩ := lay0 HKI8.out; obtain ⟨ks1, ks2⟩ := lay0 HKS8.out; obtain ⟨km1, km2⟩ := lay0 HKM8.out)
    clear kc1 kc2 ki1 ki2 ks1 ks2 km1 km2
    refine bodyPost_ret (results_cell Tryz.results75 rfl HKS8.out Tryz.underlying49 rfl (by kernel_rfl)) rfl ?_
    refine ⟨_, rfl, ?_, HB8.out⟩
    rw [HL.out]
    unfold liveS
    rw [HO.out]
    exact ⟨A9, c9, A4, c4, A5, c5, rfl, (Kd.R_reads' HRz8.out).2.2, HCr8.out, HCs8.out, HCP.out, NotIn.of_R HRz8.out HFF.out, fun a he hp hh => HNr.out a he hp (Or.inr (Or.inr hh)), fun a he hp hh => HNs.out a he hp (Or.inr (Or.inr hh))⟩
end
end Go.Proofs.YtlhpbpkefkabgaaGreat.L1
