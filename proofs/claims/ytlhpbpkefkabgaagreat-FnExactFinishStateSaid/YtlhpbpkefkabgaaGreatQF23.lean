/- A slot saved; the table of operations. -/
import Derived.Test.YtlhpbpkefkabgaaGreatQF22
import Derived.Laws.EntriesVeiled
namespace Go.Proofs.YtlhpbpkefkabgaaGreat.L1
open Go.RowKit Go.Proofs.YtlhpbpkefkabgaaGreatW.PrintWords Go.Proofs.YtlhpbpkefkabgaaGreat.B
set_option linter.unusedVariables false
set_option linter.unusedSimpArgs false
attribute [local go_sem] mk_cell mk_frozen
section
variable (w : World)
set_option maxRecDepth 100000 in
set_option maxHeartbeats 4000000 in
theorem impl_save0 (o a b c : Int) (rb : Nat) (fb g : Nat) (fp fn ft fd fl : Int) (k0 k1 k2 k3 k4 : Value) (B0 : Option Addr) (d0 : Nat) (B1 : Option Addr) (d1 : Nat) (B2 : Option Addr) (d2 : Nat) (x : Inst) (fv fq : Int) (s0 s1 s2 : Value) (br : Int) (hf : w.cell? ⟨fb, 0, none⟩ = some (.pointer (some ⟨g, 0, none⟩))) (hG : w.heap[g]? = some (.cells #[.int .i64 fp, .int .i64 fn, .int .i64 ft, .int .i64 fd, .int .i64 fl, k0, k1, k2, k3, k4, .slice B0 x.vs.length d0, .slice B1 x.qs.length d1, .slice B2 x.rs.length d2, .int .i64 fv, .int .i64 fq, s0, s1, s2, .int .i64 br] 125 (0, 0))) (hq : fq < 0) : Calls Tryz.prog 147 #[.agg #[.int .i64 o, .int .i64 a, .int .i64 b, .int .i64 c], .pointer (some ⟨fb, 0, none⟩), .pointer (some ⟨rb, 0, none⟩)] w fun e w' => e = .returned (.int .i64 (-1)) ∧ Below w.heap.size w w' := by
  have p0 : decide (0 ≤ fq) = false := decide_eq_false (by omega)
  clear hq
  have HB0 := Aside0.mk (below_alloc (Below.refl w.heap.size w) (.cells #[.int .i64 o, .int .i64 a, .int .i64 b, .int .i64 c] 99))
  have h := al_new w (.cells #[.int .i64 o, .int .i64 a, .int .i64 b, .int .i64 c] 99)
  have HKX0 := Aside0.mk h; clear h
  have HZ0 := Aside0.mk (show (w.alloc (.cells #[.int .i64 o, .int .i64 a, .int .i64 b, .int .i64 c] 99)).heap.size = w.heap.size + 1 by simp only [al_size])
  have ZF := Aside0.mk hf; have HKF0 := Aside0.mk (blk_box hG (.cells #[.int .i64 o, .int .i64 a, .int .i64 b, .int .i64 c] 99)); clear hf hG
  go_enter Tryz.func147, Tryz.ntmps147
  obtain ⟨kx1, kx2⟩ := lay (Below.refl _ _) HKX0.out
  obtain ⟨kf1, kf2⟩ := lay (Below.refl _ _) HKF0.out
  have cZF := pw_cell_below HB0.out ZF.out
  go_wp2
  go_ret
  exact ⟨rfl, HB0.out⟩
set_option maxRecDepth 100000 in
set_option maxHeartbeats 4000000 in
theorem impl_save1 (w0 : World) (o a c : Int) (rb gs cs : Nat) (sl : List Int) (fb g : Nat) (fp fn ft fd fl : Int) (k0 k1 k2 k3 k4 : Value) (B0 : Option Addr) (d0 : Nat) (B1 : Option Addr) (d1 : Nat) (B2 : Option Addr) (d2 : Nat) (x : Inst) (fv fq : Int) (s0 s1 : Value) (br : Int) (hf : w.cell? ⟨fb, 0, none⟩ = some (.pointer (some ⟨g, 0, none⟩))) (hG : w.heap[g]? = some (.cells #[.int .i64 fp, .int .i64 fn, .int .i64 ft, .int .i64 fd, .int .i64 fl, k0, k1, k2, k3, k4, .slice B0 x.vs.length d0, .slice B1 x.qs.length d1, .slice B2 x.rs.length d2, .int .i64 fv, .int .i64 fq, s0, s1, (.slice (some ⟨gs, 0, none⟩) sl.length cs), .int .i64 br] 125 (0, 0))) (A : Addr) (cR : Nat) (xs : List Int) (hr : w.cell? ⟨rb, 0, none⟩ = some (.slice (some A) xs.length cR)) (hA : kInt.C w (some A) xs.length xs) (kb : Nat) (hk0 : kb < xs.length) (hq : 0 ≤ fq) (hS : kInt.R 2 w w0.heap.size (fun _ => True) (.slice (some ⟨gs, 0, none⟩) sl.length cs) sl) (hB : Below w0.heap.size w0 w) (ks : Nat) (hks : a * x.qs.length + fq = ks) (hks0 : ks < sl.length) (hbq : 0 ≤ a * x.qs.length) (hsl : sl.length ≤ 2000000) (hx : x.qs.length ≤ 1048576) :
    Calls Tryz.prog 147 #[.agg #[.int .i64 o, .int .i64 a, .int .i64 (kb : Int), .int .i64 c], .pointer (some ⟨fb, 0, none⟩), .pointer (some ⟨rb, 0, none⟩)] w fun e w' => e = .returned (.int .i64 (-1)) ∧ kInt.R 2 w' w0.heap.size (fun _ => True) (.slice (some ⟨gs, 0, none⟩) sl.length cs) (sl.set ks (atI xs kb)) ∧ Below w0.heap.size w0 w' ∧ Tch (fun k => k = gs) w w' := by
  have p0 : decide (0 ≤ fq) = true := decide_eq_true hq
  have q0 : IntKind.i64.wrap (a * (x.qs.length : Int)) = a * (x.qs.length : Int) := IntWalk.i64_in _ (by omega)
  have q1 : IntKind.i64.wrap (a * (x.qs.length : Int) + fq) = (ks : Int) := by rw [hks]; exact IntWalk.i64_in _ (by omega)
  obtain ⟨ad, e0, z0⟩ := int_at hA hk0; injection e0 with e0; subst e0
  generalize atI xs kb = y0 at *
  have ZR := Aside0.mk hr; have Z0 := Aside0.mk z0; have HS := Aside0.mk hS; have HBB := Aside0.mk hB
  have hb : (kb : Int) < (xs.length : Int) := by omega
  have hsb : (ks : Int) < (sl.length : Int) := by omega
  clear hr z0 hA hS hB hks hbq hsl hq
  have HB0 := Aside0.mk (below_alloc (Below.refl w.heap.size w) (.cells #[.int .i64 o, .int .i64 a, .int .i64 (kb : Int), .int .i64 c] 99))
  have h := al_new w (.cells #[.int .i64 o, .int .i64 a, .int .i64 (kb : Int), .int .i64 c] 99)
  have HKX0 := Aside0.mk h; clear h
  have HZ0 := Aside0.mk (show (w.alloc (.cells #[.int .i64 o, .int .i64 a, .int .i64 (kb : Int), .int .i64 c] 99)).heap.size = w.heap.size + 1 by simp only [al_size])
  have ZF := Aside0.mk hf; have HKF0 := Aside0.mk (blk_box hG (.cells #[.int .i64 o, .int .i64 a, .int .i64 (kb : Int), .int .i64 c] 99)); clear hf hG
  go_enter Tryz.func147, Tryz.ntmps147
  obtain ⟨kx1, kx2⟩ := lay (Below.refl _ _) HKX0.out
  obtain ⟨kf1, kf2⟩ := lay (Below.refl _ _) HKF0.out
  have cZF := pw_cell_below HB0.out ZF.out
  have cZR := pw_cell_below HB0.out ZR.out
  have cZ0 := pw_cell_below HB0.out Z0.out
  go_wp2_with fail
  clear kx1 kx2 kf1 kf2 cZF cZR cZ0
  refine Grow.wp_region_tail 23 (by kernel_rfl) (by kernel_rfl) ?_
  dsimp only [List.take, List.drop]
  repeat ((first | (refine Grow.lexP_do _ (by rfl) (by rfl) (by intro W hj; obtain ⟨kx1, kx2⟩ := lay (Below.refl _ _) (blk_below HKX0.out hj.out); obtain ⟨kf1, kf2⟩ := lay (Below.refl _ _) (blk_below HKF0.out hj.out); have cZF := pw_cell_below (bel_call HB0.out hj.out) ZF.out; have cZR := pw_cell_below (bel_call HB0.out hj.out) ZR.out; have cZ0 := pw_cell_below (bel_call HB0.out hj.out) Z0.out; go_simp; first | exact Grow.UponB.val | (have cc := impl_requests W B0 B1 B2 x.vs.length x.qs.length x.rs.length d0 d1 d2 hx; with_reducible exact Grow.UponB.call cc)) ?_)); refine Grow.lexP_norm (fun K hK => ?_); go_simp; refine hK _ ?_; clear hK K)
  refine Grow.lexP_nil (fun w1 hj => ?_)
  have hb := hj.out; clear hj
  have HB1 := Aside0.mk (bel_call HB0.out hb); have HKX1 := Aside0.mk (blk_below HKX0.out hb); have HKF1 := Aside0.mk (blk_below HKF0.out hb); clear hb
  refine Kd.flat_store kInt rfl rfl rfl 2 _ _ rfl ks y0 rfl (by simp) rfl (by kernel_rfl) (Kd.R_below HS.out HB1.out) hks0 (bel_call HBB.out HB1.out) ?_
  intro w3 hr3 hb3 hg3
  have HR3 := Aside0.mk hr3; have HB3 := Aside0.mk hb3; have HG3 := Aside0.mk hg3; clear hr3 hb3 hg3
  go_wp2
  go_ret
  exact ⟨rfl, HR3.out, HB3.out, (Tch.of_below HB1.out).trans (Tch.grown HG3.out rfl HG3.out.size)⟩
theorem impl_mkset (fn : Fn) (ca : Array Value) (rb : Nat) : Calls Tryz.prog 125 #[.func fn #[] ca, .pointer (some ⟨rb, 0, none⟩)] w fun e w' => ∃ k, e = .returned (.func (.func 126) #[] #[.pointer (some ⟨k, 0, none⟩), .pointer (some ⟨rb, 0, none⟩)]) ∧ w'.heap[k]? = some (.cells #[.func fn #[] ca] 149 (0, 0)) ∧ Below w.heap.size w w' := by
  go_enter Tryz.func125, Tryz.ntmps125
  go_wp2
  go_ret
  exact ⟨_, rfl, al_new _ _, below_alloc (Below.refl _ _) _⟩
/-- What a register is set to: the closures. -/
def doL (fb rb : Nat) : List Value := [.func (.func 127) #[] #[], .func (.func 128) #[] #[.pointer (some ⟨rb, 0, none⟩)], .func (.func 129) #[] #[.pointer (some ⟨rb, 0, none⟩)], .func (.func 130) #[] #[.pointer (some ⟨rb, 0, none⟩)], .func (.func 131) #[] #[.pointer (some ⟨rb, 0, none⟩)], .func (.func 133) #[] #[.pointer (some ⟨rb, 0, none⟩)], .func (.func 134) #[] #[.pointer (some ⟨rb, 0, none⟩)], .func (.func 135) #[] #[.pointer (some ⟨rb, 0, none⟩)], .func (.func 136) #[] #[.pointer (some ⟨rb, 0, none⟩)], .func (.func 137) #[] #[.pointer (some ⟨rb, 0, none⟩)], .func (.func 138) #[] #[.pointer (some ⟨rb, 0, none⟩)], .func (.func 139) #[] #[.pointer (some ⟨rb, 0, none⟩)], .func (.func 140) #[] #[.pointer (some ⟨fb, 0, none⟩)], .func (.func 141) #[] #[.pointer (some ⟨fb, 0, none⟩)], .func (.func 142) #[] #[.pointer (some ⟨fb, 0, none⟩)]]
/-- The table of operations. -/
def opsA (fb rb : Nat) (ks : List Nat) : Array Value := #[.nilFunc, .func (.func 126) #[] #[.pointer (some ⟨ks.getD 0 0, 0, none⟩), .pointer (some ⟨rb, 0, none⟩)], .func (.func 126) #[] #[.pointer (some ⟨ks.getD 1 0, 0, none⟩), .pointer (some ⟨rb, 0, none⟩)], .func (.func 126) #[] #[.pointer (some ⟨ks.getD 2 0, 0, none⟩), .pointer (some ⟨rb, 0, none⟩)], .func (.func 126) #[] #[.pointer (some ⟨ks.getD 3 0, 0, none⟩), .pointer (some ⟨rb, 0, none⟩)], .func (.func 126) #[] #[.pointer (some ⟨ks.getD 4 0, 0, none⟩), .pointer (some ⟨rb, 0, none⟩)], .func (.func 126) #[] #[.pointer (some ⟨ks.getD 5 0, 0, none⟩), .pointer (some ⟨rb, 0, none⟩)], .func (.func 126) #[] #[.pointer (some ⟨ks.getD 6 0, 0, none⟩), .pointer (some ⟨rb, 0, none⟩)], .func (.func 126) #[] #[.pointer (some ⟨ks.getD 7 0, 0, none⟩), .pointer (some ⟨rb, 0, none⟩)], .func (.func 126) #[] #[.pointer (some ⟨ks.getD 8 0, 0, none⟩), .pointer (some ⟨rb, 0, none⟩)], .func (.func 126) #[] #[.pointer (some ⟨ks.getD 9 0, 0, none⟩), .pointer (some ⟨rb, 0, none⟩)], .func (.func 126) #[] #[.pointer (some ⟨ks.getD 10 0, 0, none⟩), .pointer (some ⟨rb, 0, none⟩)], .func (.func 126) #[] #[.pointer (some ⟨ks.getD 11 0, 0, none⟩), .pointer (some ⟨rb, 0, none⟩)], .func (.func 126) #[] #[.pointer (some ⟨ks.getD 12 0, 0, none⟩), .pointer (some ⟨rb, 0, none⟩)], .func (.func 126) #[] #[.pointer (some ⟨ks.getD 13 0, 0, none⟩), .pointer (some ⟨rb, 0, none⟩)], .func (.func 143) #[] #[.pointer (some ⟨rb, 0, none⟩)], .func (.func 144) #[] #[.pointer (some ⟨rb, 0, none⟩)], .func (.func 145) #[] #[], .func (.func 146) #[] #[.pointer (some ⟨rb, 0, none⟩), .pointer (some ⟨fb, 0, none⟩)], .func (.func 147) #[] #[.pointer (some ⟨fb, 0, none⟩), .pointer (some ⟨rb, 0, none⟩)], .func (.func 126) #[] #[.pointer (some ⟨ks.getD 14 0, 0, none⟩), .pointer (some ⟨rb, 0, none⟩)]]
set_option maxRecDepth 100000 in
set_option maxHeartbeats 8000000 in
theorem impl_operations (g ga len cR : Nat) (hs : w.cell? ⟨g, 16, none⟩ = some (.slice (some ⟨ga, 0, none⟩) len cR)) : Calls Tryz.prog 107 #[.pointer (some ⟨g, 0, none⟩)] w fun e w' => ∃ fb rb ks, e = .returned (.agg (opsA fb rb ks)) ∧ Below w.heap.size w w' ∧ w'.heap[fb]? = some (.cells #[.pointer (some ⟨g, 0, none⟩)] 118 (0, 0)) ∧ w'.heap[rb]? = some (.cells #[.slice (some ⟨ga, 0, none⟩) len cR] 30 (0, 0)) ∧
    ∀ j, j < 15 → w'.heap[ks.getD j 0]? = some (.cells #[(doL fb rb).getD j undef] 149 (0, 0)) := by
  have HB0 := Aside0.mk (below_alloc (below_alloc (Below.refl w.heap.size w) (.cells #[.pointer (some ⟨g, 0, none⟩)] 118)) (.cells #[.nilFunc, .nilFunc, .nilFunc, .nilFunc, .nilFunc, .nilFunc, .nilFunc, .nilFunc, .nilFunc, .nilFunc, .nilFunc, .nilFunc, .nilFunc, .nilFunc, .nilFunc, .nilFunc, .nilFunc, .nilFunc, .nilFunc, .nilFunc, .nilFunc] 150))
  have h := al_new w (.cells #[.pointer (some ⟨g, 0, none⟩)] 118)
  replace h := blk_box h (.cells #[.nilFunc, .nilFunc, .nilFunc, .nilFunc, .nilFunc, .nilFunc, .nilFunc, .nilFunc, .nilFunc, .nilFunc, .nilFunc, .nilFunc, .nilFunc, .nilFunc, .nilFunc, .nilFunc, .nilFunc, .nilFunc, .nilFunc, .nilFunc, .nilFunc] 150)
  have HKF0 := Aside0.mk h; clear h
  have h := al_new (w.alloc (.cells #[.pointer (some ⟨g, 0, none⟩)] 118)) (.cells #[.nilFunc, .nilFunc, .nilFunc, .nilFunc, .nilFunc, .nilFunc, .nilFunc, .nilFunc, .nilFunc, .nilFunc, .nilFunc, .nilFunc, .nilFunc, .nilFunc, .nilFunc, .nilFunc, .nilFunc, .nilFunc, .nilFunc, .nilFunc, .nilFunc] 150)
  simp only [al_size] at h
  have HKO0 := Aside0.mk h; clear h
  have HZ0 := Aside0.mk (show ((w.alloc (.cells #[.pointer (some ⟨g, 0, none⟩)] 118)).alloc (.cells #[.nilFunc, .nilFunc, .nilFunc, .nilFunc, .nilFunc, .nilFunc, .nilFunc, .nilFunc, .nilFunc, .nilFunc, .nilFunc, .nilFunc, .nilFunc, .nilFunc, .nilFunc, .nilFunc, .nilFunc, .nilFunc, .nilFunc, .nilFunc, .nilFunc] 150)).heap.size = w.heap.size + 2 by simp only [al_size])
  have h16 := pw_cell_below HB0.out hs; clear hs
  have HB1 := Aside0.mk (bel_box HB0.out (.cells #[.slice (some ⟨ga, 0, none⟩) len cR] 30)); have HKF1 := Aside0.mk (blk_box HKF0.out (.cells #[.slice (some ⟨ga, 0, none⟩) len cR] 30)); have HKO1 := Aside0.mk (blk_box HKO0.out (.cells #[.slice (some ⟨ga, 0, none⟩) len cR] 30)); have HKR1 := Aside0.mk (al_new ((w.alloc (.cells #[.pointer (some ⟨g, 0, none⟩)] 118)).alloc (.cells #[.nilFunc, .nilFunc, .nilFunc, .nilFunc, .nilFunc, .nilFunc, .nilFunc, .nilFunc, .nilFunc, .nilFunc, .nilFunc, .nilFunc, .nilFunc, .nilFunc, .nilFunc, .nilFunc, .nilFunc, .nilFunc, .nilFunc, .nilFunc, .nilFunc] 150)) (.cells #[.slice (some ⟨ga, 0, none⟩) len cR] 30))
  have hfb := HKF1; have hrb := HKR1
  go_enter Tryz.func107, Tryz.ntmps107
  go_wp2_with fail
  clear h16 hfb hrb
  have HKRx := HKR1
  simp only [al_size] at HKRx
  clear HKR1 HB0 HKF0 HKO0 HZ0
  generalize (((w.alloc (.cells #[.pointer (some ⟨g, 0, none⟩)] 118)).alloc (.cells #[.nilFunc, .nilFunc, .nilFunc, .nilFunc, .nilFunc, .nilFunc, .nilFunc, .nilFunc, .nilFunc, .nilFunc, .nilFunc, .nilFunc, .nilFunc, .nilFunc, .nilFunc, .nilFunc, .nilFunc, .nilFunc, .nilFunc, .nilFunc, .nilFunc] 150)).alloc (.cells #[.slice (some ⟨ga, 0, none⟩) len cR] 30)) = W3 at *
  have HKR1 := HKRx; clear HKRx
  go_at_call 125
  refine (impl_mkset _ _ _ _).mono ?_
  rintro e w2 ⟨k0, rfl, ho, hb⟩
  have HB2 := Aside0.mk (bel_call HB1.out hb); have HKF2 := Aside0.mk (blk_below HKF1.out hb); have HKO2 := Aside0.mk (blk_below HKO1.out hb); have HKR2 := Aside0.mk (blk_below HKR1.out hb); have HD0_2 := Aside0.mk ho; clear ho; clear hb
  go_wp2_with fail
  go_at_call 125
  refine (impl_mkset _ _ _ _).mono ?_
  rintro e w3 ⟨k1, rfl, ho, hb⟩
  have HB3 := Aside0.mk (bel_call HB2.out hb); have HKF3 := Aside0.mk (blk_below HKF2.out hb); have HKO3 := Aside0.mk (blk_below HKO2.out hb); have HKR3 := Aside0.mk (blk_below HKR2.out hb); have HD1_3 := Aside0.mk ho; have HD0_3 := Aside0.mk (blk_below HD0_2.out hb); clear ho; clear hb
  go_wp2_with fail
  go_at_call 125
  refine (impl_mkset _ _ _ _).mono ?_
  rintro e w4 ⟨k2, rfl, ho, hb⟩
  have HB4 := Aside0.mk (bel_call HB3.out hb); have HKF4 := Aside0.mk (blk_below HKF3.out hb); have HKO4 := Aside0.mk (blk_below HKO3.out hb); have HKR4 := Aside0.mk (blk_below HKR3.out hb); have HD2_4 := Aside0.mk ho; have HD0_4 := Aside0.mk (blk_below HD0_3.out hb); have HD1_4 := Aside0.mk (blk_below HD1_3.out hb); clear ho; clear hb
  go_wp2_with fail
  go_at_call 125
  refine (impl_mkset _ _ _ _).mono ?_
  rintro e w5 ⟨k3, rfl, ho, hb⟩
  have HB5 := Aside0.mk (bel_call HB4.out hb); have HKF5 := Aside0.mk (blk_below HKF4.out hb); have HKO5 := Aside0.mk (blk_below HKO4.out hb); have HKR5 := Aside0.mk (blk_below HKR4.out hb); have HD3_5 := Aside0.mk ho; have HD0_5 := Aside0.mk (blk_below HD0_4.out hb); have HD1_5 := Aside0.mk (blk_below HD1_4.out hb); have HD2_5 := Aside0.mk (blk_below HD2_4.out hb); clear ho; clear hb
  go_wp2_with fail
  go_at_call 125
  refine (impl_mkset _ _ _ _).mono ?_
  rintro e w6 ⟨k4, rfl, ho, hb⟩
  have HB6 := Aside0.mk (bel_call HB5.out hb); have HKF6 := Aside0.mk (blk_below HKF5.out hb); have HKO6 := Aside0.mk (blk_below HKO5.out hb); have HKR6 := Aside0.mk (blk_below HKR5.out hb); have HD4_6 := Aside0.mk ho; have HD0_6 := Aside0.mk (blk_below HD0_5.out hb); have HD1_6 := Aside0.mk (blk_below HD1_5.out hb); have HD2_6 := Aside0.mk (blk_below HD2_5.out hb); have HD3_6 := Aside0.mk (blk_below HD3_5.out hb); clear ho; clear hb
  go_wp2_with fail
  go_at_call 125
  refine (impl_mkset _ _ _ _).mono ?_
  rintro e w7 ⟨k5, rfl, ho, hb⟩
  have HB7 := Aside0.mk (bel_call HB6.out hb); have HKF7 := Aside0.mk (blk_below HKF6.out hb); have HKO7 := Aside0.mk (blk_below HKO6.out hb); have HKR7 := Aside0.mk (blk_below HKR6.out hb); have HD5_7 := Aside0.mk ho; have HD0_7 := Aside0.mk (blk_below HD0_6.out hb); have HD1_7 := Aside0.mk (blk_below HD1_6.out hb); have HD2_7 := Aside0.mk (blk_below HD2_6.out hb); have HD3_7 := Aside0.mk (blk_below HD3_6.out hb); have HD4_7 := Aside0.mk (blk_below HD4_6.out hb); clear ho; clear hb
  go_wp2_with fail
  go_at_call 125
  refine (impl_mkset _ _ _ _).mono ?_
  rintro e w8 ⟨k6, rfl, ho, hb⟩
  have HB8 := Aside0.mk (bel_call HB7.out hb); have HKF8 := Aside0.mk (blk_below HKF7.out hb); have HKO8 := Aside0.mk (blk_below HKO7.out hb); have HKR8 := Aside0.mk (blk_below HKR7.out hb); have HD6_8 := Aside0.mk ho; have HD0_8 := Aside0.mk (blk_below HD0_7.out hb); have HD1_8 := Aside0.mk (blk_below HD1_7.out hb); have HD2_8 := Aside0.mk (blk_below HD2_7.out hb); have HD3_8 := Aside0.mk (blk_below HD3_7.out hb); have HD4_8 := Aside0.mk (blk_below HD4_7.out hb); have HD5_8 := Aside0.mk (blk_below HD5_7.out hb); clear ho; clear hb
  go_wp2_with fail
  go_at_call 125
  refine (impl_mkset _ _ _ _).mono ?_
  rintro e w9 ⟨k7, rfl, ho, hb⟩
  have HB9 := Aside0.mk (bel_call HB8.out hb); have HKF9 := Aside0.mk (blk_below HKF8.out hb); have HKO9 := Aside0.mk (blk_below HKO8.out hb); have HKR9 := Aside0.mk (blk_below HKR8.out hb); have HD7_9 := Aside0.mk ho; have HD0_9 := Aside0.mk (blk_below HD0_8.out hb); have HD1_9 := Aside0.mk (blk_below HD1_8.out hb); have HD2_9 := Aside0.mk (blk_below HD2_8.out hb); have HD3_9 := Aside0.mk (blk_below HD3_8.out hb); have HD4_9 := Aside0.mk (blk_below HD4_8.out hb); have HD5_9 := Aside0.mk (blk_below HD5_8.out hb); have HD6_9 := Aside0.mk (blk_below HD6_8.out hb); clear ho; clear hb
  go_wp2_with fail
  go_at_call 125
  refine (impl_mkset _ _ _ _).mono ?_
  rintro e w10 ⟨k8, rfl, ho, hb⟩
  have HB10 := Aside0.mk (bel_call HB9.out hb); have HKF10 := Aside0.mk (blk_below HKF9.out hb); have HKO10 := Aside0.mk (blk_below HKO9.out hb); have HKR10 := Aside0.mk (blk_below HKR9.out hb); have HD8_10 := Aside0.mk ho; have HD0_10 := Aside0.mk (blk_below HD0_9.out hb); have HD1_10 := Aside0.mk (blk_below HD1_9.out hb); have HD2_10 := Aside0.mk (blk_below HD2_9.out hb); have HD3_10 := Aside0.mk (blk_below HD3_9.out hb); have HD4_10 := Aside0.mk (blk_below HD4_9.out hb); have HD5_10 := Aside0.mk (blk_below HD5_9.out hb); have HD6_10 := Aside0.mk (blk_below HD6_9.out hb); have HD7_10 := Aside0.mk (blk_below HD7_9.out hb); clear ho; clear hb
  go_wp2_with fail
  go_at_call 125
  refine (impl_mkset _ _ _ _).mono ?_
  rintro e w11 ⟨k9, rfl, ho, hb⟩
  have HB11 := Aside0.mk (bel_call HB10.out hb); have HKF11 := Aside0.mk (blk_below HKF10.out hb); have HKO11 := Aside0.mk (blk_below HKO10.out hb); have HKR11 := Aside0.mk (blk_below HKR10.out hb); have HD9_11 := Aside0.mk ho; have HD0_11 := Aside0.mk (blk_below HD0_10.out hb); have HD1_11 := Aside0.mk (blk_below HD1_10.out hb); have HD2_11 := Aside0.mk (blk_below HD2_10.out hb); have HD3_11 := Aside0.mk (blk_below HD3_10.out hb); have HD4_11 := Aside0.mk (blk_below HD4_10.out hb); have HD5_11 := Aside0.mk (blk_below HD5_10.out hb); have HD6_11 := Aside0.mk (blk_below HD6_10.out hb); have HD7_11 := Aside0.mk (blk_below HD7_10.out hb); have HD8_11 := Aside0.mk (blk_below HD8_10.out hb); clear ho; clear hb
  go_wp2_with fail
  go_at_call 125
  refine (impl_mkset _ _ _ _).mono ?_
  rintro e w12 ⟨k10, rfl, ho, hb⟩
  have HB12 := Aside0.mk (bel_call HB11.out hb); have HKF12 := Aside0.mk (blk_below HKF11.out hb); have HKO12 := Aside0.mk (blk_below HKO11.out hb); have HKR12 := Aside0.mk (blk_below HKR11.out hb); have HD10_12 := Aside0.mk ho; have HD0_12 := Aside0.mk (blk_below HD0_11.out hb); have HD1_12 := Aside0.mk (blk_below HD1_11.out hb); have HD2_12 := Aside0.mk (blk_below HD2_11.out hb); have HD3_12 := Aside0.mk (blk_below HD3_11.out hb); have HD4_12 := Aside0.mk (blk_below HD4_11.out hb); have HD5_12 := Aside0.mk (blk_below HD5_11.out hb); have HD6_12 := Aside0.mk (blk_below HD6_11.out hb); have HD7_12 := Aside0.mk (blk_below HD7_11.out hb); have HD8_12 := Aside0.mk (blk_below HD8_11.out hb); have HD9_12 := Aside0.mk (blk_below HD9_11.out hb); clear ho; clear hb
  go_wp2_with fail
  go_at_call 125
  refine (impl_mkset _ _ _ _).mono ?_
  rintro e w13 ⟨k11, rfl, ho, hb⟩
  have HB13 := Aside0.mk (bel_call HB12.out hb); have HKF13 := Aside0.mk (blk_below HKF12.out hb); have HKO13 := Aside0.mk (blk_below HKO12.out hb); have HKR13 := Aside0.mk (blk_below HKR12.out hb); have HD11_13 := Aside0.mk ho; have HD0_13 := Aside0.mk (blk_below HD0_12.out hb); have HD1_13 := Aside0.mk (blk_below HD1_12.out hb); have HD2_13 := Aside0.mk (blk_below HD2_12.out hb); have HD3_13 := Aside0.mk (blk_below HD3_12.out hb); have HD4_13 := Aside0.mk (blk_below HD4_12.out hb); have HD5_13 := Aside0.mk (blk_below HD5_12.out hb); have HD6_13 := Aside0.mk (blk_below HD6_12.out hb); have HD7_13 := Aside0.mk (blk_below HD7_12.out hb); have HD8_13 := Aside0.mk (blk_below HD8_12.out hb); have HD9_13 := Aside0.mk (blk_below HD9_12.out hb); have HD10_13 := Aside0.mk (blk_below HD10_12.out hb); clear ho; clear hb
  go_wp2_with fail
  go_at_call 125
  refine (impl_mkset _ _ _ _).mono ?_
  rintro e w14 ⟨k12, rfl, ho, hb⟩
  have HB14 := Aside0.mk (bel_call HB13.out hb); have HKF14 := Aside0.mk (blk_below HKF13.out hb); have HKO14 := Aside0.mk (blk_below HKO13.out hb); have HKR14 := Aside0.mk (blk_below HKR13.out hb); have HD12_14 := Aside0.mk ho; have HD0_14 := Aside0.mk (blk_below HD0_13.out hb); have HD1_14 := Aside0.mk (blk_below HD1_13.out hb); have HD2_14 := Aside0.mk (blk_below HD2_13.out hb); have HD3_14 := Aside0.mk (blk_below HD3_13.out hb); have HD4_14 := Aside0.mk (blk_below HD4_13.out hb); have HD5_14 := Aside0.mk (blk_below HD5_13.out hb); have HD6_14 := Aside0.mk (blk_below HD6_13.out hb); have HD7_14 := Aside0.mk (blk_below HD7_13.out hb); have HD8_14 := Aside0.mk (blk_below HD8_13.out hb); have HD9_14 := Aside0.mk (blk_below HD9_13.out hb); have HD10_14 := Aside0.mk (blk_below HD10_13.out hb); have HD11_14 := Aside0.mk (blk_below HD11_13.out hb); clear ho; clear hb
  go_wp2_with fail
  go_at_call 125
  refine (impl_mkset _ _ _ _).mono ?_
  rintro e w15 ⟨k13, rfl, ho, hb⟩
  have HB15 := Aside0.mk (bel_call HB14.out hb); have HKF15 := Aside0.mk (blk_below HKF14.out hb); have HKO15 := Aside0.mk (blk_below HKO14.out hb); have HKR15 := Aside0.mk (blk_below HKR14.out hb); have HD13_15 := Aside0.mk ho; have HD0_15 := Aside0.mk (blk_below HD0_14.out hb); have HD1_15 := Aside0.mk (blk_below HD1_14.out hb); have HD2_15 := Aside0.mk (blk_below HD2_14.out hb); have HD3_15 := Aside0.mk (blk_below HD3_14.out hb); have HD4_15 := Aside0.mk (blk_below HD4_14.out hb); have HD5_15 := Aside0.mk (blk_below HD5_14.out hb); have HD6_15 := Aside0.mk (blk_below HD6_14.out hb); have HD7_15 := Aside0.mk (blk_below HD7_14.out hb); have HD8_15 := Aside0.mk (blk_below HD8_14.out hb); have HD9_15 := Aside0.mk (blk_below HD9_14.out hb); have HD10_15 := Aside0.mk (blk_below HD10_14.out hb); have HD11_15 := Aside0.mk (blk_below HD11_14.out hb); have HD12_15 := Aside0.mk (blk_below HD12_14.out hb); clear ho; clear hb
  go_wp2_with fail
  go_at_call 125
  refine (impl_mkset _ _ _ _).mono ?_
  rintro e w16 ⟨k14, rfl, ho, hb⟩
  have HB16 := Aside0.mk (bel_call HB15.out hb); have HKF16 := Aside0.mk (blk_below HKF15.out hb); have HKO16 := Aside0.mk (blk_below HKO15.out hb); have HKR16 := Aside0.mk (blk_below HKR15.out hb); have HD14_16 := Aside0.mk ho; have HD0_16 := Aside0.mk (blk_below HD0_15.out hb); have HD1_16 := Aside0.mk (blk_below HD1_15.out hb); have HD2_16 := Aside0.mk (blk_below HD2_15.out hb); have HD3_16 := Aside0.mk (blk_below HD3_15.out hb); have HD4_16 := Aside0.mk (blk_below HD4_15.out hb); have HD5_16 := Aside0.mk (blk_below HD5_15.out hb); have HD6_16 := Aside0.mk (blk_below HD6_15.out hb); have HD7_16 := Aside0.mk (blk_below HD7_15.out hb); have HD8_16 := Aside0.mk (blk_below HD8_15.out hb); have HD9_16 := Aside0.mk (blk_below HD9_15.out hb); have HD10_16 := Aside0.mk (blk_below HD10_15.out hb); have HD11_16 := Aside0.mk (blk_below HD11_15.out hb); have HD12_16 := Aside0.mk (blk_below HD12_15.out hb); have HD13_16 := Aside0.mk (blk_below HD13_15.out hb); clear ho; clear hb
  go_wp2_with ((with_reducible refine gate_store (t := 150) (p := 2) rfl ?_); refine wpList_putAll rfl rfl _ _ _ rfl (g := w.heap.size + 1) [.nilFunc, .func (.func 126) #[] #[.pointer (some ⟨k0, 0, none⟩), .pointer (some ⟨w.heap.size + 1 + 1, 0, none⟩)], .func (.func 126) #[] #[.pointer (some ⟨k1, 0, none⟩), .pointer (some ⟨w.heap.size + 1 + 1, 0, none⟩)], .func (.func 126) #[] #[.pointer (some ⟨k2, 0, none⟩), .pointer (some ⟨w.heap.size + 1 + 1, 0, none⟩)], .func (.func 126) #[] #[.pointer (some ⟨k3, 0, none⟩), .pointer (some ⟨w.heap.size + 1 + 1, 0, none⟩)], .func (.func 126) #[] #[.pointer (some ⟨k4, 0, none⟩), .pointer (some ⟨w.heap.size + 1 + 1, 0, none⟩)], .func (.func 126) #[] #[.pointer (some ⟨k5, 0, none⟩), .pointer (some ⟨w.heap.size + 1 + 1, 0, none⟩)], .func (.func 126) #[] #[.pointer (some ⟨k6, 0, none⟩), .pointer (some ⟨w.heap.size + 1 + 1, 0, none⟩)], .func (.func 126) #[] #[.pointer (some ⟨k7, 0, none⟩), .pointer (some ⟨w.heap.size + 1 + 1, 0, none⟩)], .func (.func 126) #[] #[.pointer (some ⟨k8, 0, none⟩), .pointer (some ⟨w.heap.size + 1 + 1, 0, none⟩)], .func (.func 126) #[] #[.pointer (some ⟨k9, 0, none⟩), .pointer (some ⟨w.heap.size + 1 + 1, 0, none⟩)], .func (.func 126) #[] #[.pointer (some ⟨k10, 0, none⟩), .pointer (some ⟨w.heap.size + 1 + 1, 0, none⟩)], .func (.func 126) #[] #[.pointer (some ⟨k11, 0, none⟩), .pointer (some ⟨w.heap.size + 1 + 1, 0, none⟩)], .func (.func 126) #[] #[.pointer (some ⟨k12, 0, none⟩), .pointer (some ⟨w.heap.size + 1 + 1, 0, none⟩)], .func (.func 126) #[] #[.pointer (some ⟨k13, 0, none⟩), .pointer (some ⟨w.heap.size + 1 + 1, 0, none⟩)], .func (.func 143) #[] #[.pointer (some ⟨w.heap.size + 1 + 1, 0, none⟩)], .func (.func 144) #[] #[.pointer (some ⟨w.heap.size + 1 + 1, 0, none⟩)], .func (.func 145) #[] #[], .func (.func 146) #[] #[.pointer (some ⟨w.heap.size + 1 + 1, 0, none⟩), .pointer (some ⟨w.heap.size, 0, none⟩)], .func (.func 147) #[] #[.pointer (some ⟨w.heap.size, 0, none⟩), .pointer (some ⟨w.heap.size + 1 + 1, 0, none⟩)], .func (.func 126) #[] #[.pointer (some ⟨k14, 0, none⟩), .pointer (some ⟨w.heap.size + 1 + 1, 0, none⟩)]] rfl rfl (by kernel_rfl) (List.all_eq_true.1 (show List.all [.nilFunc, .func (.func 126) #[] #[.pointer (some ⟨k0, 0, none⟩), .pointer (some ⟨w.heap.size + 1 + 1, 0, none⟩)], .func (.func 126) #[] #[.pointer (some ⟨k1, 0, none⟩), .pointer (some ⟨w.heap.size + 1 + 1, 0, none⟩)], .func (.func 126) #[] #[.pointer (some ⟨k2, 0, none⟩), .pointer (some ⟨w.heap.size + 1 + 1, 0, none⟩)], .func (.func 126) #[] #[.pointer (some ⟨k3, 0, none⟩), .pointer (some ⟨w.heap.size + 1 + 1, 0, none⟩)], .func (.func 126) #[] #[.pointer (some ⟨k4, 0, none⟩), .pointer (some ⟨w.heap.size + 1 + 1, 0, none⟩)], .func (.func 126) #[] #[.pointer (some ⟨k5, 0, none⟩), .pointer (some ⟨w.heap.size + 1 + 1, 0, none⟩)], .func (.func 126) #[] #[.pointer (some ⟨k6, 0, none⟩), .pointer (some ⟨w.heap.size + 1 + 1, 0, none⟩)], .func (.func 126) #[] #[.pointer (some ⟨k7, 0, none⟩), .pointer (some ⟨w.heap.size + 1 + 1, 0, none⟩)], .func (.func 126) #[] #[.pointer (some ⟨k8, 0, none⟩), .pointer (some ⟨w.heap.size + 1 + 1, 0, none⟩)], .func (.func 126) #[] #[.pointer (some ⟨k9, 0, none⟩), .pointer (some ⟨w.heap.size + 1 + 1, 0, none⟩)], .func (.func 126) #[] #[.pointer (some ⟨k10, 0, none⟩), .pointer (some ⟨w.heap.size + 1 + 1, 0, none⟩)], .func (.func 126) #[] #[.pointer (some ⟨k11, 0, none⟩), .pointer (some ⟨w.heap.size + 1 + 1, 0, none⟩)], .func (.func 126) #[] #[.pointer (some ⟨k12, 0, none⟩), .pointer (some ⟨w.heap.size + 1 + 1, 0, none⟩)], .func (.func 126) #[] #[.pointer (some ⟨k13, 0, none⟩), .pointer (some ⟨w.heap.size + 1 + 1, 0, none⟩)], .func (.func 143) #[] #[.pointer (some ⟨w.heap.size + 1 + 1, 0, none⟩)], .func (.func 144) #[] #[.pointer (some ⟨w.heap.size + 1 + 1, 0, none⟩)], .func (.func 145) #[] #[], .func (.func 146) #[] #[.pointer (some ⟨w.heap.size + 1 + 1, 0, none⟩), .pointer (some ⟨w.heap.size, 0, none⟩)], .func (.func 147) #[] #[.pointer (some ⟨w.heap.size, 0, none⟩), .pointer (some ⟨w.heap.size + 1 + 1, 0, none⟩)], .func (.func 126) #[] #[.pointer (some ⟨k14, 0, none⟩), .pointer (some ⟨w.heap.size + 1 + 1, 0, none⟩)]] Value.oneCell' = true from rfl)) HKO16.out rfl ?_; intro wf hf htf _; have HFF := Aside0.mk hf; have HTF := Aside0.mk htf; clear hf htf)
  refine bodyPost_ret (results_cell Tryz.results107 rfl HFF.out Tryz.underlying150 rfl (by kernel_rfl)) rfl ⟨w.heap.size, w.heap.size + 1 + 1, [k0, k1, k2, k3, k4, k5, k6, k7, k8, k9, k10, k11, k12, k13, k14], rfl, ?_, ?_, ?_, ?_⟩
  · exact HTF.out.below w (fun k hk => by omega) HB16.out
  · exact (HTF.out.same _ (blk_lt HKF16.out) (by omega)).trans HKF16.out
  · exact (HTF.out.same _ (blk_lt HKR16.out) (by omega)).trans HKR16.out
  · intro j hj
    have hko := HKO16.out
    rcases (show j = 0 ∨ j = 1 ∨ j = 2 ∨ j = 3 ∨ j = 4 ∨ j = 5 ∨ j = 6 ∨ j = 7 ∨ j = 8 ∨ j = 9 ∨ j = 10 ∨ j = 11 ∨ j = 12 ∨ j = 13 ∨ j = 14 by omega) with rfl | rfl | rfl | rfl | rfl | rfl | rfl | rfl | rfl | rfl | rfl | rfl | rfl | rfl | rfl
    · exact (HTF.out.same k0 (blk_lt HD0_16.out) (fun e => by have e' : k0 = w.heap.size + 1 := e; have h := HD0_16.out; rw [e', hko] at h; injection h with h; injection h with _ h; exact absurd h (by decide))).trans HD0_16.out
    · exact (HTF.out.same k1 (blk_lt HD1_16.out) (fun e => by have e' : k1 = w.heap.size + 1 := e; have h := HD1_16.out; rw [e', hko] at h; injection h with h; injection h with _ h; exact absurd h (by decide))).trans HD1_16.out
    · exact (HTF.out.same k2 (blk_lt HD2_16.out) (fun e => by have e' : k2 = w.heap.size + 1 := e; have h := HD2_16.out; rw [e', hko] at h; injection h with h; injection h with _ h; exact absurd h (by decide))).trans HD2_16.out
    · exact (HTF.out.same k3 (blk_lt HD3_16.out) (fun e => by have e' : k3 = w.heap.size + 1 := e; have h := HD3_16.out; rw [e', hko] at h; injection h with h; injection h with _ h; exact absurd h (by decide))).trans HD3_16.out
    · exact (HTF.out.same k4 (blk_lt HD4_16.out) (fun e => by have e' : k4 = w.heap.size + 1 := e; have h := HD4_16.out; rw [e', hko] at h; injection h with h; injection h with _ h; exact absurd h (by decide))).trans HD4_16.out
    · exact (HTF.out.same k5 (blk_lt HD5_16.out) (fun e => by have e' : k5 = w.heap.size + 1 := e; have h := HD5_16.out; rw [e', hko] at h; injection h with h; injection h with _ h; exact absurd h (by decide))).trans HD5_16.out
    · exact (HTF.out.same k6 (blk_lt HD6_16.out) (fun e => by have e' : k6 = w.heap.size + 1 := e; have h := HD6_16.out; rw [e', hko] at h; injection h with h; injection h with _ h; exact absurd h (by decide))).trans HD6_16.out
    · exact (HTF.out.same k7 (blk_lt HD7_16.out) (fun e => by have e' : k7 = w.heap.size + 1 := e; have h := HD7_16.out; rw [e', hko] at h; injection h with h; injection h with _ h; exact absurd h (by decide))).trans HD7_16.out
    · exact (HTF.out.same k8 (blk_lt HD8_16.out) (fun e => by have e' : k8 = w.heap.size + 1 := e; have h := HD8_16.out; rw [e', hko] at h; injection h with h; injection h with _ h; exact absurd h (by decide))).trans HD8_16.out
    · exact (HTF.out.same k9 (blk_lt HD9_16.out) (fun e => by have e' : k9 = w.heap.size + 1 := e; have h := HD9_16.out; rw [e', hko] at h; injection h with h; injection h with _ h; exact absurd h (by decide))).trans HD9_16.out
    · exact (HTF.out.same k10 (blk_lt HD10_16.out) (fun e => by have e' : k10 = w.heap.size + 1 := e; have h := HD10_16.out; rw [e', hko] at h; injection h with h; injection h with _ h; exact absurd h (by decide))).trans HD10_16.out
    · exact (HTF.out.same k11 (blk_lt HD11_16.out) (fun e => by have e' : k11 = w.heap.size + 1 := e; have h := HD11_16.out; rw [e', hko] at h; injection h with h; injection h with _ h; exact absurd h (by decide))).trans HD11_16.out
    · exact (HTF.out.same k12 (blk_lt HD12_16.out) (fun e => by have e' : k12 = w.heap.size + 1 := e; have h := HD12_16.out; rw [e', hko] at h; injection h with h; injection h with _ h; exact absurd h (by decide))).trans HD12_16.out
    · exact (HTF.out.same k13 (blk_lt HD13_16.out) (fun e => by have e' : k13 = w.heap.size + 1 := e; have h := HD13_16.out; rw [e', hko] at h; injection h with h; injection h with _ h; exact absurd h (by decide))).trans HD13_16.out
    · exact (HTF.out.same k14 (blk_lt HD14_16.out) (fun e => by have e' : k14 = w.heap.size + 1 := e; have h := HD14_16.out; rw [e', hko] at h; injection h with h; injection h with _ h; exact absurd h (by decide))).trans HD14_16.out
end
end Go.Proofs.YtlhpbpkefkabgaaGreat.L1
