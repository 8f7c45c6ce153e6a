/- The value of an instruction, as the program tells it: a closure each. -/
import Derived.Test.YtlhpbpkefkabgaaGreatQF20
namespace Go.Proofs.YtlhpbpkefkabgaaGreat.L1
open Go.RowKit Go.Proofs.YtlhpbpkefkabgaaGreatW.PrintWords Go.Proofs.YtlhpbpkefkabgaaGreat.B
set_option linter.unusedVariables false
set_option linter.unusedSimpArgs false
attribute [local go_sem] mk_cell mk_frozen
theorem clamp_in {a : Int} (h0 : -1000000000 ≤ a) (h1 : a ≤ 1000000000) : clampI a = a := by unfold clampI; rw [if_neg (by omega), if_neg (by omega)]
/-- A frame's cells. -/
def frameC (p n t d l : Int) (k0 k1 k2 k3 k4 i0 i1 i2 : Value) (v q : Int) (s0 s1 s2 : Value) (br : Int) : Array Value := #[.int .i64 p, .int .i64 n, .int .i64 t, .int .i64 d, .int .i64 l, k0, k1, k2, k3, k4, i0, i1, i2, .int .i64 v, .int .i64 q, s0, s1, s2, .int .i64 br]
section
variable (w : World)
set_option maxRecDepth 100000 in
set_option maxHeartbeats 4000000 in
theorem do_const (o a b c : Int) : Calls Tryz.prog 127 #[.agg #[.int .i64 o, .int .i64 a, .int .i64 b, .int .i64 c]] w fun e w' => e = .returned (.int .i64 (b)) ∧ Below w.heap.size w w' := by
  have HB0 := Aside0.mk (below_alloc (Below.refl w.heap.size w) (.cells #[.int .i64 o, .int .i64 a, .int .i64 b, .int .i64 c] 99))
  have h := al_new w (.cells #[.int .i64 o, .int .i64 a, .int .i64 b, .int .i64 c] 99)
  have HKX0 := Aside0.mk h; clear h
  have HZ0 := Aside0.mk (show (w.alloc (.cells #[.int .i64 o, .int .i64 a, .int .i64 b, .int .i64 c] 99)).heap.size = w.heap.size + 1 by simp only [al_size])
  go_enter Tryz.func127, Tryz.ntmps127
  go_wp2
  go_ret
  exact ⟨rfl, HB0.out⟩
set_option maxRecDepth 100000 in
set_option maxHeartbeats 4000000 in
theorem do_move (o a c : Int) (rb : Nat) (A : Addr) (n cR : Nat) (xs : List Int) (hr : w.cell? ⟨rb, 0, none⟩ = some (.slice (some A) xs.length cR)) (hA : kInt.C w (some A) xs.length xs) (kb : Nat) (hk0 : kb < xs.length) : Calls Tryz.prog 128 #[.agg #[.int .i64 o, .int .i64 a, .int .i64 (kb : Int), .int .i64 c], .pointer (some ⟨rb, 0, none⟩)] w fun e w' => e = .returned (.int .i64 (atI xs kb)) ∧ Below w.heap.size w w' := by
  obtain ⟨ad, e0, z0⟩ := int_at hA hk0; injection e0 with e0; subst e0
  generalize hy0 : atI xs kb = y0 at *
  have ZR := Aside0.mk hr; have Z0 := Aside0.mk z0
  have hb : (kb : Int) < (xs.length : Int) := by omega
  clear hr z0 hA
  have HB0 := Aside0.mk (below_alloc (Below.refl w.heap.size w) (.cells #[.int .i64 o, .int .i64 a, .int .i64 (kb : Int), .int .i64 c] 99))
  have h := al_new w (.cells #[.int .i64 o, .int .i64 a, .int .i64 (kb : Int), .int .i64 c] 99)
  have HKX0 := Aside0.mk h; clear h
  have HZ0 := Aside0.mk (show (w.alloc (.cells #[.int .i64 o, .int .i64 a, .int .i64 (kb : Int), .int .i64 c] 99)).heap.size = w.heap.size + 1 by simp only [al_size])
  go_enter Tryz.func128, Tryz.ntmps128
  obtain ⟨kx1, kx2⟩ := lay (Below.refl _ _) HKX0.out
  have cZR := pw_cell_below HB0.out ZR.out
  have cZ0 := pw_cell_below HB0.out Z0.out
  go_wp2
  go_ret
  exact ⟨rfl, HB0.out⟩
set_option maxRecDepth 100000 in
set_option maxHeartbeats 4000000 in
theorem do_neg (o a c : Int) (rb : Nat) (A : Addr) (n cR : Nat) (xs : List Int) (hr : w.cell? ⟨rb, 0, none⟩ = some (.slice (some A) xs.length cR)) (hA : kInt.C w (some A) xs.length xs) (kb : Nat) (hk0 : kb < xs.length) (hm : -1000000000 ≤ atI xs kb ∧ atI xs kb ≤ 1000000000) : Calls Tryz.prog 129 #[.agg #[.int .i64 o, .int .i64 a, .int .i64 (kb : Int), .int .i64 c], .pointer (some ⟨rb, 0, none⟩)] w fun e w' => e = .returned (.int .i64 (clampI (-atI xs kb))) ∧ Below w.heap.size w w' := by
  obtain ⟨ad, e0, z0⟩ := int_at hA hk0; injection e0 with e0; subst e0
  generalize hy0 : atI xs kb = y0 at *
  have ZR := Aside0.mk hr; have Z0 := Aside0.mk z0
  have hb : (kb : Int) < (xs.length : Int) := by omega
  clear hr z0 hA
  have q0 : IntKind.i64.wrap (-y0) = -y0 := IntWalk.i64_in _ (by omega)
  clear hm
  have HB0 := Aside0.mk (below_alloc (Below.refl w.heap.size w) (.cells #[.int .i64 o, .int .i64 a, .int .i64 (kb : Int), .int .i64 c] 99))
  have h := al_new w (.cells #[.int .i64 o, .int .i64 a, .int .i64 (kb : Int), .int .i64 c] 99)
  have HKX0 := Aside0.mk h; clear h
  have HZ0 := Aside0.mk (show (w.alloc (.cells #[.int .i64 o, .int .i64 a, .int .i64 (kb : Int), .int .i64 c] 99)).heap.size = w.heap.size + 1 by simp only [al_size])
  go_enter Tryz.func129, Tryz.ntmps129
  obtain ⟨kx1, kx2⟩ := lay (Below.refl _ _) HKX0.out
  have cZR := pw_cell_below HB0.out ZR.out
  have cZ0 := pw_cell_below HB0.out Z0.out
  go_wp2_with fail
  clear kx1 kx2 cZR cZ0
  go_at_call 124
  refine (impl_clamp _ _).mono ?_
  rintro e w' ⟨rfl, rfl⟩
  obtain ⟨kx1, kx2⟩ := lay (Below.refl _ _) HKX0.out
  have cZR := pw_cell_below HB0.out ZR.out
  have cZ0 := pw_cell_below HB0.out Z0.out
  go_wp2
  go_ret
  exact ⟨rfl, HB0.out⟩
set_option maxRecDepth 100000 in
set_option maxHeartbeats 4000000 in
theorem do_not (o a c : Int) (rb : Nat) (A : Addr) (n cR : Nat) (xs : List Int) (hr : w.cell? ⟨rb, 0, none⟩ = some (.slice (some A) xs.length cR)) (hA : kInt.C w (some A) xs.length xs) (kb : Nat) (hk0 : kb < xs.length) : Calls Tryz.prog 130 #[.agg #[.int .i64 o, .int .i64 a, .int .i64 (kb : Int), .int .i64 c], .pointer (some ⟨rb, 0, none⟩)] w fun e w' => e = .returned (.int .i64 (bitI (atI xs kb == 0))) ∧ Below w.heap.size w w' := by
  obtain ⟨ad, e0, z0⟩ := int_at hA hk0; injection e0 with e0; subst e0
  generalize hy0 : atI xs kb = y0 at *
  have ZR := Aside0.mk hr; have Z0 := Aside0.mk z0
  have hb : (kb : Int) < (xs.length : Int) := by omega
  clear hr z0 hA
  have HB0 := Aside0.mk (below_alloc (Below.refl w.heap.size w) (.cells #[.int .i64 o, .int .i64 a, .int .i64 (kb : Int), .int .i64 c] 99))
  have h := al_new w (.cells #[.int .i64 o, .int .i64 a, .int .i64 (kb : Int), .int .i64 c] 99)
  have HKX0 := Aside0.mk h; clear h
  have HZ0 := Aside0.mk (show (w.alloc (.cells #[.int .i64 o, .int .i64 a, .int .i64 (kb : Int), .int .i64 c] 99)).heap.size = w.heap.size + 1 by simp only [al_size])
  go_enter Tryz.func130, Tryz.ntmps130
  obtain ⟨kx1, kx2⟩ := lay (Below.refl _ _) HKX0.out
  have cZR := pw_cell_below HB0.out ZR.out
  have cZ0 := pw_cell_below HB0.out Z0.out
  go_wp2_with fail
  clear kx1 kx2 cZR cZ0
  go_at_call 104
  refine (impl_flag _ _).mono ?_
  rintro e w' ⟨rfl, rfl⟩
  obtain ⟨kx1, kx2⟩ := lay (Below.refl _ _) HKX0.out
  have cZR := pw_cell_below HB0.out ZR.out
  have cZ0 := pw_cell_below HB0.out Z0.out
  go_wp2
  go_ret
  exact ⟨rfl, HB0.out⟩
set_option maxRecDepth 100000 in
set_option maxHeartbeats 4000000 in
theorem do_mul (o a : Int) (rb : Nat) (A : Addr) (n cR : Nat) (xs : List Int) (hr : w.cell? ⟨rb, 0, none⟩ = some (.slice (some A) xs.length cR)) (hA : kInt.C w (some A) xs.length xs) (kb kc : Nat) (hk0 : kb < xs.length) (hk1 : kc < xs.length) : Calls Tryz.prog 131 #[.agg #[.int .i64 o, .int .i64 a, .int .i64 (kb : Int), .int .i64 (kc : Int)], .pointer (some ⟨rb, 0, none⟩)] w fun e w' => e = .returned (.int .i64 (satMul (atI xs kb) (atI xs kc))) ∧ Below w.heap.size w w' := by
  obtain ⟨ad, e0, z0⟩ := int_at hA hk0; injection e0 with e0; subst e0
  obtain ⟨ad', e1, z1⟩ := int_at hA hk1; injection e1 with e1; subst e1
  generalize hy0 : atI xs kb = y0 at *
  generalize hy1 : atI xs kc = y1 at *
  have ZR := Aside0.mk hr; have Z0 := Aside0.mk z0; have Z1 := Aside0.mk z1
  have hb : (kb : Int) < (xs.length : Int) := by omega
  have hc : (kc : Int) < (xs.length : Int) := by omega
  clear hr z0 hA z1
  have HB0 := Aside0.mk (below_alloc (Below.refl w.heap.size w) (.cells #[.int .i64 o, .int .i64 a, .int .i64 (kb : Int), .int .i64 (kc : Int)] 99))
  have h := al_new w (.cells #[.int .i64 o, .int .i64 a, .int .i64 (kb : Int), .int .i64 (kc : Int)] 99)
  have HKX0 := Aside0.mk h; clear h
  have HZ0 := Aside0.mk (show (w.alloc (.cells #[.int .i64 o, .int .i64 a, .int .i64 (kb : Int), .int .i64 (kc : Int)] 99)).heap.size = w.heap.size + 1 by simp only [al_size])
  go_enter Tryz.func131, Tryz.ntmps131
  obtain ⟨kx1, kx2⟩ := lay (Below.refl _ _) HKX0.out
  have cZR := pw_cell_below HB0.out ZR.out
  have cZ0 := pw_cell_below HB0.out Z0.out
  have cZ1 := pw_cell_below HB0.out Z1.out
  go_wp2_with fail
  clear kx1 kx2 cZR cZ0 cZ1
  refine Grow.wp_region_growB (by kernel_rfl) (by kernel_rfl) ?_
  repeat ((first | (refine Grow.lex_do _ (by rfl) (by intro W hj; obtain ⟨kx1, kx2⟩ := lay (Below.refl _ _) (blk_below HKX0.out hj.out); have cZR := pw_cell_below (bel_call HB0.out hj.out) ZR.out; have cZ0 := pw_cell_below (bel_call HB0.out hj.out) Z0.out; have cZ1 := pw_cell_below (bel_call HB0.out hj.out) Z1.out; go_simp; first | exact Grow.Upon.val hj | (have cc := impl_SatMul W y0 y1; with_reducible exact Grow.Upon.callB hj (cc.mono fun e w' h => ⟨h.1, h.2 ▸ Below.refl _ _⟩))) ?_)); refine Grow.lex_norm (fun K hK => ?_); go_simp; refine hK _ ?_; clear hK K)
  refine Grow.lex_nil (fun w1 hj => ?_)
  have hb := hj.out; clear hj
  have HB1 := Aside0.mk (bel_call HB0.out hb); have HKX1 := Aside0.mk (blk_below HKX0.out hb); clear hb
  go_wp2
  go_ret
  exact ⟨rfl, HB1.out⟩
set_option maxRecDepth 100000 in
set_option maxHeartbeats 4000000 in
theorem do_add (o a : Int) (rb : Nat) (A : Addr) (n cR : Nat) (xs : List Int) (hr : w.cell? ⟨rb, 0, none⟩ = some (.slice (some A) xs.length cR)) (hA : kInt.C w (some A) xs.length xs) (kb kc : Nat) (hk0 : kb < xs.length) (hk1 : kc < xs.length) : Calls Tryz.prog 133 #[.agg #[.int .i64 o, .int .i64 a, .int .i64 (kb : Int), .int .i64 (kc : Int)], .pointer (some ⟨rb, 0, none⟩)] w fun e w' => e = .returned (.int .i64 (satAdd (atI xs kb) (atI xs kc))) ∧ Below w.heap.size w w' := by
  obtain ⟨ad, e0, z0⟩ := int_at hA hk0; injection e0 with e0; subst e0
  obtain ⟨ad', e1, z1⟩ := int_at hA hk1; injection e1 with e1; subst e1
  generalize hy0 : atI xs kb = y0 at *
  generalize hy1 : atI xs kc = y1 at *
  have ZR := Aside0.mk hr; have Z0 := Aside0.mk z0; have Z1 := Aside0.mk z1
  have hb : (kb : Int) < (xs.length : Int) := by omega
  have hc : (kc : Int) < (xs.length : Int) := by omega
  clear hr z0 hA z1
  have HB0 := Aside0.mk (below_alloc (Below.refl w.heap.size w) (.cells #[.int .i64 o, .int .i64 a, .int .i64 (kb : Int), .int .i64 (kc : Int)] 99))
  have h := al_new w (.cells #[.int .i64 o, .int .i64 a, .int .i64 (kb : Int), .int .i64 (kc : Int)] 99)
  have HKX0 := Aside0.mk h; clear h
  have HZ0 := Aside0.mk (show (w.alloc (.cells #[.int .i64 o, .int .i64 a, .int .i64 (kb : Int), .int .i64 (kc : Int)] 99)).heap.size = w.heap.size + 1 by simp only [al_size])
  go_enter Tryz.func133, Tryz.ntmps133
  obtain ⟨kx1, kx2⟩ := lay (Below.refl _ _) HKX0.out
  have cZR := pw_cell_below HB0.out ZR.out
  have cZ0 := pw_cell_below HB0.out Z0.out
  have cZ1 := pw_cell_below HB0.out Z1.out
  go_wp2_with fail
  clear kx1 kx2 cZR cZ0 cZ1
  refine Grow.wp_region_growB (by kernel_rfl) (by kernel_rfl) ?_
  repeat ((first | (refine Grow.lex_do _ (by rfl) (by intro W hj; obtain ⟨kx1, kx2⟩ := lay (Below.refl _ _) (blk_below HKX0.out hj.out); have cZR := pw_cell_below (bel_call HB0.out hj.out) ZR.out; have cZ0 := pw_cell_below (bel_call HB0.out hj.out) Z0.out; have cZ1 := pw_cell_below (bel_call HB0.out hj.out) Z1.out; go_simp; first | exact Grow.Upon.val hj | (have cc := impl_SatAdd W y0 y1; with_reducible exact Grow.Upon.callB hj (cc.mono fun e w' h => ⟨h.1, h.2 ▸ Below.refl _ _⟩))) ?_)); refine Grow.lex_norm (fun K hK => ?_); go_simp; refine hK _ ?_; clear hK K)
  refine Grow.lex_nil (fun w1 hj => ?_)
  have hb := hj.out; clear hj
  have HB1 := Aside0.mk (bel_call HB0.out hb); have HKX1 := Aside0.mk (blk_below HKX0.out hb); clear hb
  go_wp2
  go_ret
  exact ⟨rfl, HB1.out⟩
set_option maxRecDepth 100000 in
set_option maxHeartbeats 4000000 in
theorem do_sub (o a : Int) (rb : Nat) (A : Addr) (n cR : Nat) (xs : List Int) (hr : w.cell? ⟨rb, 0, none⟩ = some (.slice (some A) xs.length cR)) (hA : kInt.C w (some A) xs.length xs) (kb kc : Nat) (hk0 : kb < xs.length) (hk1 : kc < xs.length) (hm : -1000000000 ≤ atI xs kc ∧ atI xs kc ≤ 1000000000) : Calls Tryz.prog 134 #[.agg #[.int .i64 o, .int .i64 a, .int .i64 (kb : Int), .int .i64 (kc : Int)], .pointer (some ⟨rb, 0, none⟩)] w fun e w' => e = .returned (.int .i64 (satAdd (atI xs kb) (-atI xs kc))) ∧ Below w.heap.size w w' := by
  obtain ⟨ad, e0, z0⟩ := int_at hA hk0; injection e0 with e0; subst e0
  obtain ⟨ad', e1, z1⟩ := int_at hA hk1; injection e1 with e1; subst e1
  generalize hy0 : atI xs kb = y0 at *
  generalize hy1 : atI xs kc = y1 at *
  have ZR := Aside0.mk hr; have Z0 := Aside0.mk z0; have Z1 := Aside0.mk z1
  have hb : (kb : Int) < (xs.length : Int) := by omega
  have hc : (kc : Int) < (xs.length : Int) := by omega
  clear hr z0 hA z1
  have q0 : IntKind.i64.wrap (-y1) = -y1 := IntWalk.i64_in _ (by omega)
  clear hm
  have HB0 := Aside0.mk (below_alloc (Below.refl w.heap.size w) (.cells #[.int .i64 o, .int .i64 a, .int .i64 (kb : Int), .int .i64 (kc : Int)] 99))
  have h := al_new w (.cells #[.int .i64 o, .int .i64 a, .int .i64 (kb : Int), .int .i64 (kc : Int)] 99)
  have HKX0 := Aside0.mk h; clear h
  have HZ0 := Aside0.mk (show (w.alloc (.cells #[.int .i64 o, .int .i64 a, .int .i64 (kb : Int), .int .i64 (kc : Int)] 99)).heap.size = w.heap.size + 1 by simp only [al_size])
  go_enter Tryz.func134, Tryz.ntmps134
  obtain ⟨kx1, kx2⟩ := lay (Below.refl _ _) HKX0.out
  have cZR := pw_cell_below HB0.out ZR.out
  have cZ0 := pw_cell_below HB0.out Z0.out
  have cZ1 := pw_cell_below HB0.out Z1.out
  go_wp2_with fail
  clear kx1 kx2 cZR cZ0 cZ1
  refine Grow.wp_region_growB (by kernel_rfl) (by kernel_rfl) ?_
  repeat ((first | (refine Grow.lex_do _ (by rfl) (by intro W hj; obtain ⟨kx1, kx2⟩ := lay (Below.refl _ _) (blk_below HKX0.out hj.out); have cZR := pw_cell_below (bel_call HB0.out hj.out) ZR.out; have cZ0 := pw_cell_below (bel_call HB0.out hj.out) Z0.out; have cZ1 := pw_cell_below (bel_call HB0.out hj.out) Z1.out; go_simp; first | exact Grow.Upon.val hj | (have cc := impl_SatAdd W y0 (-y1); with_reducible exact Grow.Upon.callB hj (cc.mono fun e w' h => ⟨h.1, h.2 ▸ Below.refl _ _⟩))) ?_)); refine Grow.lex_norm (fun K hK => ?_); go_simp; refine hK _ ?_; clear hK K)
  refine Grow.lex_nil (fun w1 hj => ?_)
  have hb := hj.out; clear hj
  have HB1 := Aside0.mk (bel_call HB0.out hb); have HKX1 := Aside0.mk (blk_below HKX0.out hb); clear hb
  go_wp2
  go_ret
  exact ⟨rfl, HB1.out⟩
set_option maxRecDepth 100000 in
set_option maxHeartbeats 4000000 in
theorem do_lt (o a : Int) (rb : Nat) (A : Addr) (n cR : Nat) (xs : List Int) (hr : w.cell? ⟨rb, 0, none⟩ = some (.slice (some A) xs.length cR)) (hA : kInt.C w (some A) xs.length xs) (kb kc : Nat) (hk0 : kb < xs.length) (hk1 : kc < xs.length) : Calls Tryz.prog 135 #[.agg #[.int .i64 o, .int .i64 a, .int .i64 (kb : Int), .int .i64 (kc : Int)], .pointer (some ⟨rb, 0, none⟩)] w fun e w' => e = .returned (.int .i64 (bitI (decide (atI xs kb < atI xs kc)))) ∧ Below w.heap.size w w' := by
  obtain ⟨ad, e0, z0⟩ := int_at hA hk0; injection e0 with e0; subst e0
  obtain ⟨ad', e1, z1⟩ := int_at hA hk1; injection e1 with e1; subst e1
  generalize hy0 : atI xs kb = y0 at *
  generalize hy1 : atI xs kc = y1 at *
  have ZR := Aside0.mk hr; have Z0 := Aside0.mk z0; have Z1 := Aside0.mk z1
  have hb : (kb : Int) < (xs.length : Int) := by omega
  have hc : (kc : Int) < (xs.length : Int) := by omega
  clear hr z0 hA z1
  have HB0 := Aside0.mk (below_alloc (Below.refl w.heap.size w) (.cells #[.int .i64 o, .int .i64 a, .int .i64 (kb : Int), .int .i64 (kc : Int)] 99))
  have h := al_new w (.cells #[.int .i64 o, .int .i64 a, .int .i64 (kb : Int), .int .i64 (kc : Int)] 99)
  have HKX0 := Aside0.mk h; clear h
  have HZ0 := Aside0.mk (show (w.alloc (.cells #[.int .i64 o, .int .i64 a, .int .i64 (kb : Int), .int .i64 (kc : Int)] 99)).heap.size = w.heap.size + 1 by simp only [al_size])
  go_enter Tryz.func135, Tryz.ntmps135
  obtain ⟨kx1, kx2⟩ := lay (Below.refl _ _) HKX0.out
  have cZR := pw_cell_below HB0.out ZR.out
  have cZ0 := pw_cell_below HB0.out Z0.out
  have cZ1 := pw_cell_below HB0.out Z1.out
  go_wp2_with fail
  clear kx1 kx2 cZR cZ0 cZ1
  refine Grow.wp_region_growB (by kernel_rfl) (by kernel_rfl) ?_
  repeat ((first | (refine Grow.lex_do _ (by rfl) (by intro W hj; obtain ⟨kx1, kx2⟩ := lay (Below.refl _ _) (blk_below HKX0.out hj.out); have cZR := pw_cell_below (bel_call HB0.out hj.out) ZR.out; have cZ0 := pw_cell_below (bel_call HB0.out hj.out) Z0.out; have cZ1 := pw_cell_below (bel_call HB0.out hj.out) Z1.out; go_simp; first | exact Grow.Upon.val hj | (have cc := impl_flag W (decide (y0 < y1)); with_reducible exact Grow.Upon.callB hj (cc.mono fun e w' h => ⟨h.1, h.2 ▸ Below.refl _ _⟩))) ?_)); refine Grow.lex_norm (fun K hK => ?_); go_simp; refine hK _ ?_; clear hK K)
  refine Grow.lex_nil (fun w1 hj => ?_)
  have hb := hj.out; clear hj
  have HB1 := Aside0.mk (bel_call HB0.out hb); have HKX1 := Aside0.mk (blk_below HKX0.out hb); clear hb
  go_wp2
  go_ret
  exact ⟨rfl, HB1.out⟩
set_option maxRecDepth 100000 in
set_option maxHeartbeats 4000000 in
theorem do_le (o a : Int) (rb : Nat) (A : Addr) (n cR : Nat) (xs : List Int) (hr : w.cell? ⟨rb, 0, none⟩ = some (.slice (some A) xs.length cR)) (hA : kInt.C w (some A) xs.length xs) (kb kc : Nat) (hk0 : kb < xs.length) (hk1 : kc < xs.length) : Calls Tryz.prog 136 #[.agg #[.int .i64 o, .int .i64 a, .int .i64 (kb : Int), .int .i64 (kc : Int)], .pointer (some ⟨rb, 0, none⟩)] w fun e w' => e = .returned (.int .i64 (bitI (decide (atI xs kb ≤ atI xs kc)))) ∧ Below w.heap.size w w' := by
  obtain ⟨ad, e0, z0⟩ := int_at hA hk0; injection e0 with e0; subst e0
  obtain ⟨ad', e1, z1⟩ := int_at hA hk1; injection e1 with e1; subst e1
  generalize hy0 : atI xs kb = y0 at *
  generalize hy1 : atI xs kc = y1 at *
  have ZR := Aside0.mk hr; have Z0 := Aside0.mk z0; have Z1 := Aside0.mk z1
  have hb : (kb : Int) < (xs.length : Int) := by omega
  have hc : (kc : Int) < (xs.length : Int) := by omega
  clear hr z0 hA z1
  have HB0 := Aside0.mk (below_alloc (Below.refl w.heap.size w) (.cells #[.int .i64 o, .int .i64 a, .int .i64 (kb : Int), .int .i64 (kc : Int)] 99))
  have h := al_new w (.cells #[.int .i64 o, .int .i64 a, .int .i64 (kb : Int), .int .i64 (kc : Int)] 99)
  have HKX0 := Aside0.mk h; clear h
  have HZ0 := Aside0.mk (show (w.alloc (.cells #[.int .i64 o, .int .i64 a, .int .i64 (kb : Int), .int .i64 (kc : Int)] 99)).heap.size = w.heap.size + 1 by simp only [al_size])
  go_enter Tryz.func136, Tryz.ntmps136
  obtain ⟨kx1, kx2⟩ := lay (Below.refl _ _) HKX0.out
  have cZR := pw_cell_below HB0.out ZR.out
  have cZ0 := pw_cell_below HB0.out Z0.out
  have cZ1 := pw_cell_below HB0.out Z1.out
  go_wp2_with fail
  clear kx1 kx2 cZR cZ0 cZ1
  refine Grow.wp_region_growB (by kernel_rfl) (by kernel_rfl) ?_
  repeat ((first | (refine Grow.lex_do _ (by rfl) (by intro W hj; obtain ⟨kx1, kx2⟩ := lay (Below.refl _ _) (blk_below HKX0.out hj.out); have cZR := pw_cell_below (bel_call HB0.out hj.out) ZR.out; have cZ0 := pw_cell_below (bel_call HB0.out hj.out) Z0.out; have cZ1 := pw_cell_below (bel_call HB0.out hj.out) Z1.out; go_simp; first | exact Grow.Upon.val hj | (have cc := impl_flag W (decide (y0 ≤ y1)); with_reducible exact Grow.Upon.callB hj (cc.mono fun e w' h => ⟨h.1, h.2 ▸ Below.refl _ _⟩))) ?_)); refine Grow.lex_norm (fun K hK => ?_); go_simp; refine hK _ ?_; clear hK K)
  refine Grow.lex_nil (fun w1 hj => ?_)
  have hb := hj.out; clear hj
  have HB1 := Aside0.mk (bel_call HB0.out hb); have HKX1 := Aside0.mk (blk_below HKX0.out hb); clear hb
  go_wp2
  go_ret
  exact ⟨rfl, HB1.out⟩
set_option maxRecDepth 100000 in
set_option maxHeartbeats 4000000 in
theorem do_eq (o a : Int) (rb : Nat) (A : Addr) (n cR : Nat) (xs : List Int) (hr : w.cell? ⟨rb, 0, none⟩ = some (.slice (some A) xs.length cR)) (hA : kInt.C w (some A) xs.length xs) (kb kc : Nat) (hk0 : kb < xs.length) (hk1 : kc < xs.length) : Calls Tryz.prog 137 #[.agg #[.int .i64 o, .int .i64 a, .int .i64 (kb : Int), .int .i64 (kc : Int)], .pointer (some ⟨rb, 0, none⟩)] w fun e w' => e = .returned (.int .i64 (bitI (atI xs kb == atI xs kc))) ∧ Below w.heap.size w w' := by
  obtain ⟨ad, e0, z0⟩ := int_at hA hk0; injection e0 with e0; subst e0
  obtain ⟨ad', e1, z1⟩ := int_at hA hk1; injection e1 with e1; subst e1
  generalize hy0 : atI xs kb = y0 at *
  generalize hy1 : atI xs kc = y1 at *
  have ZR := Aside0.mk hr; have Z0 := Aside0.mk z0; have Z1 := Aside0.mk z1
  have hb : (kb : Int) < (xs.length : Int) := by omega
  have hc : (kc : Int) < (xs.length : Int) := by omega
  clear hr z0 hA z1
  have HB0 := Aside0.mk (below_alloc (Below.refl w.heap.size w) (.cells #[.int .i64 o, .int .i64 a, .int .i64 (kb : Int), .int .i64 (kc : Int)] 99))
  have h := al_new w (.cells #[.int .i64 o, .int .i64 a, .int .i64 (kb : Int), .int .i64 (kc : Int)] 99)
  have HKX0 := Aside0.mk h; clear h
  have HZ0 := Aside0.mk (show (w.alloc (.cells #[.int .i64 o, .int .i64 a, .int .i64 (kb : Int), .int .i64 (kc : Int)] 99)).heap.size = w.heap.size + 1 by simp only [al_size])
  go_enter Tryz.func137, Tryz.ntmps137
  obtain ⟨kx1, kx2⟩ := lay (Below.refl _ _) HKX0.out
  have cZR := pw_cell_below HB0.out ZR.out
  have cZ0 := pw_cell_below HB0.out Z0.out
  have cZ1 := pw_cell_below HB0.out Z1.out
  go_wp2_with fail
  clear kx1 kx2 cZR cZ0 cZ1
  refine Grow.wp_region_growB (by kernel_rfl) (by kernel_rfl) ?_
  repeat ((first | (refine Grow.lex_do _ (by rfl) (by intro W hj; obtain ⟨kx1, kx2⟩ := lay (Below.refl _ _) (blk_below HKX0.out hj.out); have cZR := pw_cell_below (bel_call HB0.out hj.out) ZR.out; have cZ0 := pw_cell_below (bel_call HB0.out hj.out) Z0.out; have cZ1 := pw_cell_below (bel_call HB0.out hj.out) Z1.out; go_simp; first | exact Grow.Upon.val hj | (have cc := impl_flag W (y0 == y1); with_reducible exact Grow.Upon.callB hj (cc.mono fun e w' h => ⟨h.1, h.2 ▸ Below.refl _ _⟩)) | (have cc := impl_flag W (decide (y0 = y1)); with_reducible exact Grow.Upon.callB hj (cc.mono fun e w' h => ⟨h.1, h.2 ▸ Below.refl _ _⟩))) ?_)); refine Grow.lex_norm (fun K hK => ?_); go_simp; refine hK _ ?_; clear hK K)
  refine Grow.lex_nil (fun w1 hj => ?_)
  have hb := hj.out; clear hj
  have HB1 := Aside0.mk (bel_call HB0.out hb); have HKX1 := Aside0.mk (blk_below HKX0.out hb); clear hb
  go_wp2
  go_ret
  exact ⟨rfl, HB1.out⟩
set_option maxRecDepth 100000 in
set_option maxHeartbeats 4000000 in
theorem do_min (o a : Int) (rb : Nat) (A : Addr) (n cR : Nat) (xs : List Int) (hr : w.cell? ⟨rb, 0, none⟩ = some (.slice (some A) xs.length cR)) (hA : kInt.C w (some A) xs.length xs) (kb kc : Nat) (hk0 : kb < xs.length) (hk1 : kc < xs.length) : Calls Tryz.prog 138 #[.agg #[.int .i64 o, .int .i64 a, .int .i64 (kb : Int), .int .i64 (kc : Int)], .pointer (some ⟨rb, 0, none⟩)] w fun e w' => e = .returned (.int .i64 (min (atI xs kb) (atI xs kc))) ∧ Below w.heap.size w w' := by
  obtain ⟨ad, e0, z0⟩ := int_at hA hk0; injection e0 with e0; subst e0
  obtain ⟨ad', e1, z1⟩ := int_at hA hk1; injection e1 with e1; subst e1
  generalize hy0 : atI xs kb = y0 at *
  generalize hy1 : atI xs kc = y1 at *
  have ZR := Aside0.mk hr; have Z0 := Aside0.mk z0; have Z1 := Aside0.mk z1
  have hb : (kb : Int) < (xs.length : Int) := by omega
  have hc : (kc : Int) < (xs.length : Int) := by omega
  clear hr z0 hA z1
  have HB0 := Aside0.mk (below_alloc (Below.refl w.heap.size w) (.cells #[.int .i64 o, .int .i64 a, .int .i64 (kb : Int), .int .i64 (kc : Int)] 99))
  have h := al_new w (.cells #[.int .i64 o, .int .i64 a, .int .i64 (kb : Int), .int .i64 (kc : Int)] 99)
  have HKX0 := Aside0.mk h; clear h
  have HZ0 := Aside0.mk (show (w.alloc (.cells #[.int .i64 o, .int .i64 a, .int .i64 (kb : Int), .int .i64 (kc : Int)] 99)).heap.size = w.heap.size + 1 by simp only [al_size])
  go_enter Tryz.func138, Tryz.ntmps138
  obtain ⟨kx1, kx2⟩ := lay (Below.refl _ _) HKX0.out
  have cZR := pw_cell_below HB0.out ZR.out
  have cZ0 := pw_cell_below HB0.out Z0.out
  have cZ1 := pw_cell_below HB0.out Z1.out
  go_wp2_with fail
  clear kx1 kx2 cZR cZ0 cZ1
  refine Grow.wp_region_growB (by kernel_rfl) (by kernel_rfl) ?_
  repeat ((first | (refine Grow.lex_do _ (by rfl) (by intro W hj; obtain ⟨kx1, kx2⟩ := lay (Below.refl _ _) (blk_below HKX0.out hj.out); have cZR := pw_cell_below (bel_call HB0.out hj.out) ZR.out; have cZ0 := pw_cell_below (bel_call HB0.out hj.out) Z0.out; have cZ1 := pw_cell_below (bel_call HB0.out hj.out) Z1.out; go_simp; first | exact Grow.Upon.val hj) ?_)); refine Grow.lex_norm (fun K hK => ?_); go_simp; refine hK _ ?_; clear hK K)
  refine Grow.lex_nil (fun w1 hj => ?_)
  have hb := hj.out; clear hj
  have HB1 := Aside0.mk (bel_call HB0.out hb); have HKX1 := Aside0.mk (blk_below HKX0.out hb); clear hb
  go_wp2
  all_goals (go_ret; refine ⟨?_, HB1.out⟩; show Ending.returned (Value.int .i64 _) = _; congr 2; omega)
set_option maxRecDepth 100000 in
set_option maxHeartbeats 4000000 in
theorem do_max (o a : Int) (rb : Nat) (A : Addr) (n cR : Nat) (xs : List Int) (hr : w.cell? ⟨rb, 0, none⟩ = some (.slice (some A) xs.length cR)) (hA : kInt.C w (some A) xs.length xs) (kb kc : Nat) (hk0 : kb < xs.length) (hk1 : kc < xs.length) : Calls Tryz.prog 139 #[.agg #[.int .i64 o, .int .i64 a, .int .i64 (kb : Int), .int .i64 (kc : Int)], .pointer (some ⟨rb, 0, none⟩)] w fun e w' => e = .returned (.int .i64 (max (atI xs kb) (atI xs kc))) ∧ Below w.heap.size w w' := by
  obtain ⟨ad, e0, z0⟩ := int_at hA hk0; injection e0 with e0; subst e0
  obtain ⟨ad', e1, z1⟩ := int_at hA hk1; injection e1 with e1; subst e1
  generalize hy0 : atI xs kb = y0 at *
  generalize hy1 : atI xs kc = y1 at *
  have ZR := Aside0.mk hr; have Z0 := Aside0.mk z0; have Z1 := Aside0.mk z1
  have hb : (kb : Int) < (xs.length : Int) := by omega
  have hc : (kc : Int) < (xs.length : Int) := by omega
  clear hr z0 hA z1
  have HB0 := Aside0.mk (below_alloc (Below.refl w.heap.size w) (.cells #[.int .i64 o, .int .i64 a, .int .i64 (kb : Int), .int .i64 (kc : Int)] 99))
  have h := al_new w (.cells #[.int .i64 o, .int .i64 a, .int .i64 (kb : Int), .int .i64 (kc : Int)] 99)
  have HKX0 := Aside0.mk h; clear h
  have HZ0 := Aside0.mk (show (w.alloc (.cells #[.int .i64 o, .int .i64 a, .int .i64 (kb : Int), .int .i64 (kc : Int)] 99)).heap.size = w.heap.size + 1 by simp only [al_size])
  go_enter Tryz.func139, Tryz.ntmps139
  obtain ⟨kx1, kx2⟩ := lay (Below.refl _ _) HKX0.out
  have cZR := pw_cell_below HB0.out ZR.out
  have cZ0 := pw_cell_below HB0.out Z0.out
  have cZ1 := pw_cell_below HB0.out Z1.out
  go_wp2_with fail
  clear kx1 kx2 cZR cZ0 cZ1
  refine Grow.wp_region_growB (by kernel_rfl) (by kernel_rfl) ?_
  repeat ((first | (refine Grow.lex_do _ (by rfl) (by intro W hj; obtain ⟨kx1, kx2⟩ := lay (Below.refl _ _) (blk_below HKX0.out hj.out); have cZR := pw_cell_below (bel_call HB0.out hj.out) ZR.out; have cZ0 := pw_cell_below (bel_call HB0.out hj.out) Z0.out; have cZ1 := pw_cell_below (bel_call HB0.out hj.out) Z1.out; go_simp; first | exact Grow.Upon.val hj) ?_)); refine Grow.lex_norm (fun K hK => ?_); go_simp; refine hK _ ?_; clear hK K)
  refine Grow.lex_nil (fun w1 hj => ?_)
  have hb := hj.out; clear hj
  have HB1 := Aside0.mk (bel_call HB0.out hb); have HKX1 := Aside0.mk (blk_below HKX0.out hb); clear hb
  go_wp2
  all_goals (go_ret; refine ⟨?_, HB1.out⟩; show Ending.returned (Value.int .i64 _) = _; congr 2; omega)
end
end Go.Proofs.YtlhpbpkefkabgaaGreat.L1
