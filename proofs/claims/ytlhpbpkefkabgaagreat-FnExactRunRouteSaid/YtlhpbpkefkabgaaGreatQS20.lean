/- The value of an instruction, as the program tells it: a closure each. The closures of the program's machine that read the frame. -/
import Derived.Test.YtlhpbpkefkabgaaGreatQS19
namespace Go.Proofs.YtlhpbpkefkabgaaGreat.L1
open Go.RowKit Go.Proofs.YtlhpbpkefkabgaaGreatW.PrintWords Go.Proofs.YtlhpbpkefkabgaaGreat.B
set_option linter.unusedVariables false
set_option linter.unusedSimpArgs false
attribute [local go_sem] mk_cell mk_frozen
theorem clamp_in {a : Int} (h0 : -1000000000 ≤ a) (h1 : a ≤ 1000000000) : clampI a = a := by unfold clampI; rw [if_neg (by omega), if_neg (by omega)]
/-- A frame's cells. -/
def frameC (p n t d l : Int) (k0 k1 k2 k3 k4 i0 i1 i2 : Value) (v q : Int) (s0 s1 s2 : Value) (br : Int) : Array Value := #[.int .i64 p, .int .i64 n, .int .i64 t, .int .i64 d, .int .i64 l, k0, k1, k2, k3, k4, i0, i1, i2, .int .i64 v, .int .i64 q, s0, s1, s2, .int .i64 br]
section
variable (w : World)
set_option maxRecDepth 100000 in
set_option maxHeartbeats 4000000 in
theorem do_const (o a b c : Int) : Calls Tryz.prog 127 #[.agg #[.int .i64 o, .int .i64 a, .int .i64 b, .int .i64 c]] w fun e w' => e = .returned (.int .i64 (b)) ∧ Below w.heap.size w w' := by
  obtain ⟨HB0, HKX0, HZ0⟩ := opens1 w (.cells #[.int .i64 o, .int .i64 a, .int .i64 b, .int .i64 c] 99)
  go_enter Tryz.func127, Tryz.ntmps127
  go_wp2
  go_ret
  exact ⟨rfl, HB0.out⟩
set_option maxRecDepth 100000 in
set_option maxHeartbeats 4000000 in
theorem do_move (o a c : Int) (rb : Nat) (A : Addr) (n cR : Nat) (xs : List Int) (hr : w.cell? ⟨rb, 0, none⟩ = some (.slice (some A) xs.length cR)) (hA : kInt.C w (some A) xs.length xs) (kb : Nat) (hk0 : kb < xs.length) : Calls Tryz.prog 128 #[.agg #[.int .i64 o, .int .i64 a, .int .i64 (kb : Int), .int .i64 c], .pointer (some ⟨rb, 0, none⟩)] w fun e w' => e = .returned (.int .i64 (atI xs kb)) ∧ Below w.heap.size w w' := by
  obtain ⟨ad, e0, z0⟩ := int_at hA hk0; injection e0 with e0; subst e0
  generalize hy0 : atI xs kb = y0 at *
  have ZR := sA hr; have Z0 := sA z0
  have hb : (kb : Int) < (xs.length : Int) := by omega
  clear hr z0 hA
  obtain ⟨HB0, HKX0, HZ0⟩ := opens1 w (.cells #[.int .i64 o, .int .i64 a, .int .i64 (kb : Int), .int .i64 c] 99)
  go_enter Tryz.func128, Tryz.ntmps128
  obtain ⟨kx1, kx2⟩ := lay0 HKX0.out
  have cZR := pC HB0.out ZR.out
  have cZ0 := pC HB0.out Z0.out
  go_wp2
  go_ret
  exact ⟨rfl, HB0.out⟩
set_option maxRecDepth 100000 in
set_option maxHeartbeats 4000000 in
theorem do_neg (o a c : Int) (rb : Nat) (A : Addr) (n cR : Nat) (xs : List Int) (hr : w.cell? ⟨rb, 0, none⟩ = some (.slice (some A) xs.length cR)) (hA : kInt.C w (some A) xs.length xs) (kb : Nat) (hk0 : kb < xs.length) (hm : -1000000000 ≤ atI xs kb ∧ atI xs kb ≤ 1000000000) : Calls Tryz.prog 129 #[.agg #[.int .i64 o, .int .i64 a, .int .i64 (kb : Int), .int .i64 c], .pointer (some ⟨rb, 0, none⟩)] w fun e w' => e = .returned (.int .i64 (clampI (-atI xs kb))) ∧ Below w.heap.size w w' := by
  obtain ⟨ad, e0, z0⟩ := int_at hA hk0; injection e0 with e0; subst e0
  generalize hy0 : atI xs kb = y0 at *
  have ZR := sA hr; have Z0 := sA z0
  have hb : (kb : Int) < (xs.length : Int) := by omega
  clear hr z0 hA
  have q0 : IntKind.i64.wrap (-y0) = -y0 := IntWalk.i64_in _ (by omega)
  clear hm
  obtain ⟨HB0, HKX0, HZ0⟩ := opens1 w (.cells #[.int .i64 o, .int .i64 a, .int .i64 (kb : Int), .int .i64 c] 99)
  go_enter Tryz.func129, Tryz.ntmps129
  obtain ⟨kx1, kx2⟩ := lay0 HKX0.out
  have cZR := pC HB0.out ZR.out
  have cZ0 := pC HB0.out Z0.out
  go_wp2_with fail
  clear kx1 kx2 cZR cZ0
  go_at_call 124
  refine (impl_clamp _ _).mono ?_
  rintro e w' ⟨rfl, rfl⟩
  obtain ⟨kx1, kx2⟩ := lay0 HKX0.out
  have cZR := pC HB0.out ZR.out
  have cZ0 := pC HB0.out Z0.out
  go_wp2
  go_ret
  exact ⟨rfl, HB0.out⟩
set_option maxRecDepth 100000 in
set_option maxHeartbeats 4000000 in
theorem do_not (o a c : Int) (rb : Nat) (A : Addr) (n cR : Nat) (xs : List Int) (hr : w.cell? ⟨rb, 0, none⟩ = some (.slice (some A) xs.length cR)) (hA : kInt.C w (some A) xs.length xs) (kb : Nat) (hk0 : kb < xs.length) : Calls Tryz.prog 130 #[.agg #[.int .i64 o, .int .i64 a, .int .i64 (kb : Int), .int .i64 c], .pointer (some ⟨rb, 0, none⟩)] w fun e w' => e = .returned (.int .i64 (bitI (atI xs kb == 0))) ∧ Below w.heap.size w w' := by
  obtain ⟨ad, e0, z0⟩ := int_at hA hk0; injection e0 with e0; subst e0
  generalize hy0 : atI xs kb = y0 at *
  have ZR := sA hr; have Z0 := sA z0
  have hb : (kb : Int) < (xs.length : Int) := by omega
  clear hr z0 hA
  obtain ⟨HB0, HKX0, HZ0⟩ := opens1 w (.cells #[.int .i64 o, .int .i64 a, .int .i64 (kb : Int), .int .i64 c] 99)
  go_enter Tryz.func130, Tryz.ntmps130
  obtain ⟨kx1, kx2⟩ := lay0 HKX0.out
  have cZR := pC HB0.out ZR.out
  have cZ0 := pC HB0.out Z0.out
  go_wp2_with fail
  clear kx1 kx2 cZR cZ0
  go_at_call 104
  refine (impl_flag _ _).mono ?_
  rintro e w' ⟨rfl, rfl⟩
  obtain ⟨kx1, kx2⟩ := lay0 HKX0.out
  have cZR := pC HB0.out ZR.out
  have cZ0 := pC HB0.out Z0.out
  go_wp2
  go_ret
  exact ⟨rfl, HB0.out⟩
set_option maxRecDepth 100000 in
set_option maxHeartbeats 4000000 in
theorem do_mul (o a : Int) (rb : Nat) (A : Addr) (n cR : Nat) (xs : List Int) (hr : w.cell? ⟨rb, 0, none⟩ = some (.slice (some A) xs.length cR)) (hA : kInt.C w (some A) xs.length xs) (kb kc : Nat) (hk0 : kb < xs.length) (hk1 : kc < xs.length) : Calls Tryz.prog 131 #[.agg #[.int .i64 o, .int .i64 a, .int .i64 (kb : Int), .int .i64 (kc : Int)], .pointer (some ⟨rb, 0, none⟩)] w fun e w' => e = .returned (.int .i64 (satMul (atI xs kb) (atI xs kc))) ∧ Below w.heap.size w w' := by
  obtain ⟨ad, e0, z0⟩ := int_at hA hk0; injection e0 with e0; subst e0
  obtain ⟨ad', e1, z1⟩ := int_at hA hk1; injection e1 with e1; subst e1
  generalize hy0 : atI xs kb = y0 at *
  generalize hy1 : atI xs kc = y1 at *
  have ZR := sA hr; have Z0 := sA z0; have Z1 := sA z1
  have hb : (kb : Int) < (xs.length : Int) := by omega
  have hc : (kc : Int) < (xs.length : Int) := by omega
  clear hr z0 hA z1
  obtain ⟨HB0, HKX0, HZ0⟩ := opens1 w (.cells #[.int .i64 o, .int .i64 a, .int .i64 (kb : Int), .int .i64 (kc : Int)] 99)
  go_enter Tryz.func131, Tryz.ntmps131
  obtain ⟨kx1, kx2⟩ := lay0 HKX0.out
  have cZR := pC HB0.out ZR.out
  have cZ0 := pC HB0.out Z0.out
  have cZ1 := pC HB0.out Z1.out
  go_wp2_with fail
  clear kx1 kx2 cZR cZ0 cZ1
  refine Grow.wp_region_growB (by kernel_rfl) (by kernel_rfl) ?_
  repeat ((first | (refine Grow.lex_do _ (by rfl) (by intro W hj; obtain ⟨kx1, kx2⟩ := lay hj.out HKX0.out; have cZR := pC (bC HB0.out hj.out) ZR.out; have cZ0 := pC (bC HB0.out hj.out) Z0.out; have cZ1 := pC (bC HB0.out hj.out) Z1.out; go_simp; first | exact Grow.Upon.val hj | (have cc := impl_SatMul W y0 y1; with_reducible exact Grow.Upon.callB hj (cc.mono fun e w' h => ⟨h.1, h.2 ▸ Below.refl _ _⟩))) ?_)); refine Grow.lex_norm (fun K hK => ?_); go_simp; refine hK _ ?_; clear hK K)
  refine Grow.lex_nil (fun w1 hj => ?_)
  have hb := hj.out; clear hj
  have HB1 := sA (bC HB0.out hb); have HKX1 := sA (bB HKX0.out hb); clear hb
  go_wp2
  go_ret
  exact ⟨rfl, HB1.out⟩
set_option maxRecDepth 100000 in
set_option maxHeartbeats 4000000 in
theorem do_add (o a : Int) (rb : Nat) (A : Addr) (n cR : Nat) (xs : List Int) (hr : w.cell? ⟨rb, 0, none⟩ = some (.slice (some A) xs.length cR)) (hA : kInt.C w (some A) xs.length xs) (kb kc : Nat) (hk0 : kb < xs.length) (hk1 : kc < xs.length) : Calls Tryz.prog 133 #[.agg #[.int .i64 o, .int .i64 a, .int .i64 (kb : Int), .int .i64 (kc : Int)], .pointer (some ⟨rb, 0, none⟩)] w fun e w' => e = .returned (.int .i64 (satAdd (atI xs kb) (atI xs kc))) ∧ Below w.heap.size w w' := by
  obtain ⟨ad, e0, z0⟩ := int_at hA hk0; injection e0 with e0; subst e0
  obtain ⟨ad', e1, z1⟩ := int_at hA hk1; injection e1 with e1; subst e1
  generalize hy0 : atI xs kb = y0 at *
  generalize hy1 : atI xs kc = y1 at *
  have ZR := sA hr; have Z0 := sA z0; have Z1 := sA z1
  have hb : (kb : Int) < (xs.length : Int) := by omega
  have hc : (kc : Int) < (xs.length : Int) := by omega
  clear hr z0 hA z1
  obtain ⟨HB0, HKX0, HZ0⟩ := opens1 w (.cells #[.int .i64 o, .int .i64 a, .int .i64 (kb : Int), .int .i64 (kc : Int)] 99)
  go_enter Tryz.func133, Tryz.ntmps133
  obtain ⟨kx1, kx2⟩ := lay0 HKX0.out
  have cZR := pC HB0.out ZR.out
  have cZ0 := pC HB0.out Z0.out
  have cZ1 := pC HB0.out Z1.out
  go_wp2_with fail
  clear kx1 kx2 cZR cZ0 cZ1
  refine Grow.wp_region_growB (by kernel_rfl) (by kernel_rfl) ?_
  repeat ((first | (refine Grow.lex_do _ (by rfl) (by intro W hj; obtain ⟨kx1, kx2⟩ := lay hj.out HKX0.out; have cZR := pC (bC HB0.out hj.out) ZR.out; have cZ0 := pC (bC HB0.out hj.out) Z0.out; have cZ1 := pC (bC HB0.out hj.out) Z1.out; go_simp; first | exact Grow.Upon.val hj | (have cc := impl_SatAdd W y0 y1; with_reducible exact Grow.Upon.callB hj (cc.mono fun e w' h => ⟨h.1, h.2 ▸ Below.refl _ _⟩))) ?_)); refine Grow.lex_norm (fun K hK => ?_); go_simp; refine hK _ ?_; clear hK K)
  refine Grow.lex_nil (fun w1 hj => ?_)
  have hb := hj.out; clear hj
  have HB1 := sA (bC HB0.out hb); have HKX1 := sA (bB HKX0.out hb); clear hb
  go_wp2
  go_ret
  exact ⟨rfl, HB1.out⟩
set_option maxRecDepth 100000 in
set_option maxHeartbeats 4000000 in
theorem do_sub (o a : Int) (rb : Nat) (A : Addr) (n cR : Nat) (xs : List Int) (hr : w.cell? ⟨rb, 0, none⟩ = some (.slice (some A) xs.length cR)) (hA : kInt.C w (some A) xs.length xs) (kb kc : Nat) (hk0 : kb < xs.length) (hk1 : kc < xs.length) (hm : -1000000000 ≤ atI xs kc ∧ atI xs kc ≤ 1000000000) : Calls Tryz.prog 134 #[.agg #[.int .i64 o, .int .i64 a, .int .i64 (kb : Int), .int .i64 (kc : Int)], .pointer (some ⟨rb, 0, none⟩)] w fun e w' => e = .returned (.int .i64 (satAdd (atI xs kb) (-atI xs kc))) ∧ Below w.heap.size w w' := by
  obtain ⟨ad, e0, z0⟩ := int_at hA hk0; injection e0 with e0; subst e0
  obtain ⟨ad', e1, z1⟩ := int_at hA hk1; injection e1 with e1; subst e1
  generalize hy0 : atI xs kb = y0 at *
  generalize hy1 : atI xs kc = y1 at *
  have ZR := sA hr; have Z0 := sA z0; have Z1 := sA z1
  have hb : (kb : Int) < (xs.length : Int) := by omega
  have hc : (kc : Int) < (xs.length : Int) := by omega
  clear hr z0 hA z1
  have q0 : IntKind.i64.wrap (-y1) = -y1 := IntWalk.i64_in _ (by omega)
  clear hm
  obtain ⟨HB0, HKX0, HZ0⟩ := opens1 w (.cells #[.int .i64 o, .int .i64 a, .int .i64 (kb : Int), .int .i64 (kc : Int)] 99)
  go_enter Tryz.func134, Tryz.ntmps134
  obtain ⟨kx1, kx2⟩ := lay0 HKX0.out
  have cZR := pC HB0.out ZR.out
  have cZ0 := pC HB0.out Z0.out
  have cZ1 := pC HB0.out Z1.out
  go_wp2_with fail
  clear kx1 kx2 cZR cZ0 cZ1
  refine Grow.wp_region_growB (by kernel_rfl) (by kernel_rfl) ?_
  repeat ((first | (refine Grow.lex_do _ (by rfl) (by intro W hj; obtain ⟨kx1, kx2⟩ := lay hj.out HKX0.out; have cZR := pC (bC HB0.out hj.out) ZR.out; have cZ0 := pC (bC HB0.out hj.out) Z0.out; have cZ1 := pC (bC HB0.out hj.out) Z1.out; go_simp; first | exact Grow.Upon.val hj | (have cc := impl_SatAdd W y0 (-y1); with_reducible exact Grow.Upon.callB hj (cc.mono fun e w' h => ⟨h.1, h.2 ▸ Below.refl _ _⟩))) ?_)); refine Grow.lex_norm (fun K hK => ?_); go_simp; refine hK _ ?_; clear hK K)
  refine Grow.lex_nil (fun w1 hj => ?_)
  have hb := hj.out; clear hj
  have HB1 := sA (bC HB0.out hb); have HKX1 := sA (bB HKX0.out hb); clear hb
  go_wp2
  go_ret
  exact ⟨rfl, HB1.out⟩
set_option maxRecDepth 100000 in
set_option maxHeartbeats 4000000 in
theorem do_lt (o a : Int) (rb : Nat) (A : Addr) (n cR : Nat) (xs : List Int) (hr : w.cell? ⟨rb, 0, none⟩ = some (.slice (some A) xs.length cR)) (hA : kInt.C w (some A) xs.length xs) (kb kc : Nat) (hk0 : kb < xs.length) (hk1 : kc < xs.length) : Calls Tryz.prog 135 #[.agg #[.int .i64 o, .int .i64 a, .int .i64 (kb : Int), .int .i64 (kc : Int)], .pointer (some ⟨rb, 0, none⟩)] w fun e w' => e = .returned (.int .i64 (bitI (decide (atI xs kb < atI xs kc)))) ∧ Below w.heap.size w w' := by
  obtain ⟨ad, e0, z0⟩ := int_at hA hk0; injection e0 with e0; subst e0
  obtain ⟨ad', e1, z1⟩ := int_at hA hk1; injection e1 with e1; subst e1
  generalize hy0 : atI xs kb = y0 at *
  generalize hy1 : atI xs kc = y1 at *
  have ZR := sA hr; have Z0 := sA z0; have Z1 := sA z1
  have hb : (kb : Int) < (xs.length : Int) := by omega
  have hc : (kc : Int) < (xs.length : Int) := by omega
  clear hr z0 hA z1
  obtain ⟨HB0, HKX0, HZ0⟩ := opens1 w (.cells #[.int .i64 o, .int .i64 a, .int .i64 (kb : Int), .int .i64 (kc : Int)] 99)
  go_enter Tryz.func135, Tryz.ntmps135
  obtain ⟨kx1, kx2⟩ := lay0 HKX0.out
  have cZR := pC HB0.out ZR.out
  have cZ0 := pC HB0.out Z0.out
  have cZ1 := pC HB0.out Z1.out
  go_wp2_with fail
  clear kx1 kx2 cZR cZ0 cZ1
  refine Grow.wp_region_growB (by kernel_rfl) (by kernel_rfl) ?_
  repeat ((first | (refine Grow.lex_do _ (by rfl) (by intro W hj; obtain ⟨kx1, kx2⟩ := lay hj.out HKX0.out; have cZR := pC (bC HB0.out hj.out) ZR.out; have cZ0 := pC (bC HB0.out hj.out) Z0.out; have cZ1 := pC (bC HB0.out hj.out) Z1.out; go_simp; first | exact Grow.Upon.val hj | (have cc := impl_flag W (decide (y0 < y1)); with_reducible exact Grow.Upon.callB hj (cc.mono fun e w' h => ⟨h.1, h.2 ▸ Below.refl _ _⟩))) ?_)); refine Grow.lex_norm (fun K hK => ?_); go_simp; refine hK _ ?_; clear hK K)
  refine Grow.lex_nil (fun w1 hj => ?_)
  have hb := hj.out; clear hj
  have HB1 := sA (bC HB0.out hb); have HKX1 := sA (bB HKX0.out hb); clear hb
  go_wp2
  go_ret
  exact ⟨rfl, HB1.out⟩
set_option maxRecDepth 100000 in
set_option maxHeartbeats 4000000 in
theorem do_le (o a : Int) (rb : Nat) (A : Addr) (n cR : Nat) (xs : List Int) (hr : w.cell? ⟨rb, 0, none⟩ = some (.slice (some A) xs.length cR)) (hA : kInt.C w (some A) xs.length xs) (kb kc : Nat) (hk0 : kb < xs.length) (hk1 : kc < xs.length) : Calls Tryz.prog 136 #[.agg #[.int .i64 o, .int .i64 a, .int .i64 (kb : Int), .int .i64 (kc : Int)], .pointer (some ⟨rb, 0, none⟩)] w fun e w' => e = .returned (.int .i64 (bitI (decide (atI xs kb ≤ atI xs kc)))) ∧ Below w.heap.size w w' := by
  obtain ⟨ad, e0, z0⟩ := int_at hA hk0; injection e0 with e0; subst e0
  obtain ⟨ad', e1, z1⟩ := int_at hA hk1; injection e1 with e1; subst e1
  generalize hy0 : atI xs kb = y0 at *
  generalize hy1 : atI xs kc = y1 at *
  have ZR := sA hr; have Z0 := sA z0; have Z1 := sA z1
  have hb : (kb : Int) < (xs.length : Int) := by omega
  have hc : (kc : Int) < (xs.length : Int) := by omega
  clear hr z0 hA z1
  obtain ⟨HB0, HKX0, HZ0⟩ := opens1 w (.cells #[.int .i64 o, .int .i64 a, .int .i64 (kb : Int), .int .i64 (kc : Int)] 99)
  go_enter Tryz.func136, Tryz.ntmps136
  obtain ⟨kx1, kx2⟩ := lay0 HKX0.out
  have cZR := pC HB0.out ZR.out
  have cZ0 := pC HB0.out Z0.out
  have cZ1 := pC HB0.out Z1.out
  go_wp2_with fail
  clear kx1 kx2 cZR cZ0 cZ1
  refine Grow.wp_region_growB (by kernel_rfl) (by kernel_rfl) ?_
  repeat ((first | (refine Grow.lex_do _ (by rfl) (by intro W hj; obtain ⟨kx1, kx2⟩ := lay hj.out HKX0.out; have cZR := pC (bC HB0.out hj.out) ZR.out; have cZ0 := pC (bC HB0.out hj.out) Z0.out; have cZ1 := pC (bC HB0.out hj.out) Z1.out; go_simp; first | exact Grow.Upon.val hj | (have cc := impl_flag W (decide (y0 ≤ y1)); with_reducible exact Grow.Upon.callB hj (cc.mono fun e w' h => ⟨h.1, h.2 ▸ Below.refl _ _⟩))) ?_)); refine Grow.lex_norm (fun K hK => ?_); go_simp; refine hK _ ?_; clear hK K)
  refine Grow.lex_nil (fun w1 hj => ?_)
  have hb := hj.out; clear hj
  have HB1 := sA (bC HB0.out hb); have HKX1 := sA (bB HKX0.out hb); clear hb
  go_wp2
  go_ret
  exact ⟨rfl, HB1.out⟩
set_option maxRecDepth 100000 in
set_option maxHeartbeats 4000000 in
theorem do_eq (o a : Int) (rb : Nat) (A : Addr) (n cR : Nat) (xs : List Int) (hr : w.cell? ⟨rb, 0, none⟩ = some (.slice (some A) xs.length cR)) (hA : kInt.C w (some A) xs.length xs) (kb kc : Nat) (hk0 : kb < xs.length) (hk1 : kc < xs.length) : Calls Tryz.prog 137 #[.agg #[.int .i64 o, .int .i64 a, .int .i64 (kb : Int), .int .i64 (kc : Int)], .pointer (some ⟨rb, 0, none⟩)] w fun e w' => e = .returned (.int .i64 (bitI (atI xs kb == atI xs kc))) ∧ Below w.heap.size w w' := by
  obtain ⟨ad, e0, z0⟩ := int_at hA hk0; injection e0 with e0; subst e0
  obtain ⟨ad', e1, z1⟩ := int_at hA hk1; injection e1 with e1; subst e1
  generalize hy0 : atI xs kb = y0 at *
  generalize hy1 : atI xs kc = y1 at *
  have ZR := sA hr; have Z0 := sA z0; have Z1 := sA z1
  have hb : (kb : Int) < (xs.length : Int) := by omega
  have hc : (kc : Int) < (xs.length : Int) := by omega
  clear hr z0 hA z1
  obtain ⟨HB0, HKX0, HZ0⟩ := opens1 w (.cells #[.int .i64 o, .int .i64 a, .int .i64 (kb : Int), .int .i64 (kc : Int)] 99)
  go_enter Tryz.func137, Tryz.ntmps137
  obtain ⟨kx1, kx2⟩ := lay0 HKX0.out
  have cZR := pC HB0.out ZR.out
  have cZ0 := pC HB0.out Z0.out
  have cZ1 := pC HB0.out Z1.out
  go_wp2_with fail
  clear kx1 kx2 cZR cZ0 cZ1
  refine Grow.wp_region_growB (by kernel_rfl) (by kernel_rfl) ?_
  repeat ((first | (refine Grow.lex_do _ (by rfl) (by intro W hj; obtain ⟨kx1, kx2⟩ := lay hj.out HKX0.out; have cZR := pC (bC HB0.out hj.out) ZR.out; have cZ0 := pC (bC HB0.out hj.out) Z0.out; have cZ1 := pC (bC HB0.out hj.out) Z1.out; go_simp; first | exact Grow.Upon.val hj | (have cc := impl_flag W (y0 == y1); with_reducible exact Grow.Upon.callB hj (cc.mono fun e w' h => ⟨h.1, h.2 ▸ Below.refl _ _⟩)) | (have cc := impl_flag W (decide (y0 = y1)); with_reducible exact Grow.Upon.callB hj (cc.mono fun e w' h => ⟨h.1, h.2 ▸ Below.refl _ _⟩))) ?_)); refine Grow.lex_norm (fun K hK => ?_); go_simp; refine hK _ ?_; clear hK K)
  refine Grow.lex_nil (fun w1 hj => ?_)
  have hb := hj.out; clear hj
  have HB1 := sA (bC HB0.out hb); have HKX1 := sA (bB HKX0.out hb); clear hb
  go_wp2
  go_ret
  exact ⟨rfl, HB1.out⟩
set_option maxRecDepth 100000 in
set_option maxHeartbeats 4000000 in
theorem do_min (o a : Int) (rb : Nat) (A : Addr) (n cR : Nat) (xs : List Int) (hr : w.cell? ⟨rb, 0, none⟩ = some (.slice (some A) xs.length cR)) (hA : kInt.C w (some A) xs.length xs) (kb kc : Nat) (hk0 : kb < xs.length) (hk1 : kc < xs.length) : Calls Tryz.prog 138 #[.agg #[.int .i64 o, .int .i64 a, .int .i64 (kb : Int), .int .i64 (kc : Int)], .pointer (some ⟨rb, 0, none⟩)] w fun e w' => e = .returned (.int .i64 (min (atI xs kb) (atI xs kc))) ∧ Below w.heap.size w w' := by
  obtain ⟨ad, e0, z0⟩ := int_at hA hk0; injection e0 with e0; subst e0
  obtain ⟨ad', e1, z1⟩ := int_at hA hk1; injection e1 with e1; subst e1
  generalize hy0 : atI xs kb = y0 at *
  generalize hy1 : atI xs kc = y1 at *
  have ZR := sA hr; have Z0 := sA z0; have Z1 := sA z1
  have hb : (kb : Int) < (xs.length : Int) := by omega
  have hc : (kc : Int) < (xs.length : Int) := by omega
  clear hr z0 hA z1
  obtain ⟨HB0, HKX0, HZ0⟩ := opens1 w (.cells #[.int .i64 o, .int .i64 a, .int .i64 (kb : Int), .int .i64 (kc : Int)] 99)
  go_enter Tryz.func138, Tryz.ntmps138
  obtain ⟨kx1, kx2⟩ := lay0 HKX0.out
  have cZR := pC HB0.out ZR.out
  have cZ0 := pC HB0.out Z0.out
  have cZ1 := pC HB0.out Z1.out
  go_wp2_with fail
  clear kx1 kx2 cZR cZ0 cZ1
  refine Grow.wp_region_growB (by kernel_rfl) (by kernel_rfl) ?_
  repeat ((first | (refine Grow.lex_do _ (by rfl) (by intro W hj; obtain ⟨kx1, kx2⟩ := lay hj.out HKX0.out; have cZR := pC (bC HB0.out hj.out) ZR.out; have cZ0 := pC (bC HB0.out hj.out) Z0.out; have cZ1 := pC (bC HB0.out hj.out) Z1.out; go_simp; first | exact Grow.Upon.val hj) ?_)); refine Grow.lex_norm (fun K hK => ?_); go_simp; refine hK _ ?_; clear hK K)
  refine Grow.lex_nil (fun w1 hj => ?_)
  have hb := hj.out; clear hj
  have HB1 := sA (bC HB0.out hb); have HKX1 := sA (bB HKX0.out hb); clear hb
  go_wp2
  all_goals (go_ret; refine ⟨?_, HB1.out⟩; show Ending.returned (Value.int .i64 _) = _; congr 2; omega)
set_option maxRecDepth 100000 in
set_option maxHeartbeats 4000000 in
theorem do_max (o a : Int) (rb : Nat) (A : Addr) (n cR : Nat) (xs : List Int) (hr : w.cell? ⟨rb, 0, none⟩ = some (.slice (some A) xs.length cR)) (hA : kInt.C w (some A) xs.length xs) (kb kc : Nat) (hk0 : kb < xs.length) (hk1 : kc < xs.length) : Calls Tryz.prog 139 #[.agg #[.int .i64 o, .int .i64 a, .int .i64 (kb : Int), .int .i64 (kc : Int)], .pointer (some ⟨rb, 0, none⟩)] w fun e w' => e = .returned (.int .i64 (max (atI xs kb) (atI xs kc))) ∧ Below w.heap.size w w' := by
  obtain ⟨ad, e0, z0⟩ := int_at hA hk0; injection e0 with e0; subst e0
  obtain ⟨ad', e1, z1⟩ := int_at hA hk1; injection e1 with e1; subst e1
  generalize hy0 : atI xs kb = y0 at *
  generalize hy1 : atI xs kc = y1 at *
  have ZR := sA hr; have Z0 := sA z0; have Z1 := sA z1
  have hb : (kb : Int) < (xs.length : Int) := by omega
  have hc : (kc : Int) < (xs.length : Int) := by omega
  clear hr z0 hA z1
  obtain ⟨HB0, HKX0, HZ0⟩ := opens1 w (.cells #[.int .i64 o, .int .i64 a, .int .i64 (kb : Int), .int .i64 (kc : Int)] 99)
  go_enter Tryz.func139, Tryz.ntmps139
  obtain ⟨kx1, kx2⟩ := lay0 HKX0.out
  have cZR := pC HB0.out ZR.out
  have cZ0 := pC HB0.out Z0.out
  have cZ1 := pC HB0.out Z1.out
  go_wp2_with fail
  clear kx1 kx2 cZR cZ0 cZ1
  refine Grow.wp_region_growB (by kernel_rfl) (by kernel_rfl) ?_
  repeat ((first | (refine Grow.lex_do _ (by rfl) (by intro W hj; obtain ⟨kx1, kx2⟩ := lay hj.out HKX0.out; have cZR := pC (bC HB0.out hj.out) ZR.out; have cZ0 := pC (bC HB0.out hj.out) Z0.out; have cZ1 := pC (bC HB0.out hj.out) Z1.out; go_simp; first | exact Grow.Upon.val hj) ?_)); refine Grow.lex_norm (fun K hK => ?_); go_simp; refine hK _ ?_; clear hK K)
  refine Grow.lex_nil (fun w1 hj => ?_)
  have hb := hj.out; clear hj
  have HB1 := sA (bC HB0.out hb); have HKX1 := sA (bB HKX0.out hb); clear hb
  go_wp2
  all_goals (go_ret; refine ⟨?_, HB1.out⟩; show Ending.returned (Value.int .i64 _) = _; congr 2; omega)
end
end Go.Proofs.YtlhpbpkefkabgaaGreat.L1
namespace Go.Proofs.YtlhpbpkefkabgaaGreat.L1
open Go.RowKit Go.Proofs.YtlhpbpkefkabgaaGreatW.PrintWords Go.Proofs.YtlhpbpkefkabgaaGreat.B
set_option linter.unusedVariables false
set_option linter.unusedSimpArgs false
attribute [local go_sem] mk_cell mk_frozen
theorem i64_and1 (n : Int) : bits .and .i64 n 1 = n % 2 := by
  have h1 : (BitVec.ofInt 64 1).toNat = 2 ^ 1 - 1 := by decide
  have key : (BitVec.ofInt 64 n &&& BitVec.ofInt 64 1).toNat = (n % ((2 ^ 64 : Nat) : Int)).toNat % 2 ^ 1 := by
    rw [BitVec.toNat_and, BitVec.toNat_ofInt, h1, Nat.and_two_pow_sub_one_eq_mod]
  show IntKind.i64.wrap ((BitVec.ofInt 64 n &&& BitVec.ofInt 64 1).toNat : Nat) = n % 2
  rw [key, IntKind.wrap_i64]
  omega
attribute [local go_sem] i64_and1
theorem tag_val (s t : Int) : bitI (tagOf s t) = s / 2 ^ t.toNat % 2 := by
  unfold tagOf bitI
  rcases (show s / 2 ^ t.toNat % 2 = 0 ∨ s / 2 ^ t.toNat % 2 = 1 by omega) with h | h <;> rw [h] <;> rfl
section
variable (w : World)
set_option maxRecDepth 100000 in
set_option maxHeartbeats 4000000 in
theorem do_skill (o a b c : Int) (fb g : Nat) (fp fn ft fd fl : Int) (k0 k1 k2 k3 k4 : Value) (B0 : Option Addr) (d0 : Nat) (B1 : Option Addr) (d1 : Nat) (B2 : Option Addr) (d2 : Nat) (x : Inst) (fv fq : Int) (s0 s1 s2 : Value) (br : Int) (hf : w.cell? ⟨fb, 0, none⟩ = some (.pointer (some ⟨g, 0, none⟩))) (hG : w.heap[g]? = some (.cells #[.int .i64 fp, .int .i64 fn, .int .i64 ft, .int .i64 fd, .int .i64 fl, k0, k1, k2, k3, k4, .slice B0 x.vs.length d0, .slice B1 x.qs.length d1, .slice B2 x.rs.length d2, .int .i64 fv, .int .i64 fq, s0, s1, s2, .int .i64 br] 125 (0, 0))) (kv : Nat) (hv : fv = kv) (hkv : kv < x.vs.length) (hB : kVeh.C w B0 x.vs.length x.vs) (t0 : 0 ≤ b) (t1 : b ≤ 15) (h0 : 0 ≤ (x.vs.getD kv zV).skills) (h1 : (x.vs.getD kv zV).skills ≤ 65535) : Calls Tryz.prog 141 #[.agg #[.int .i64 o, .int .i64 a, .int .i64 b, .int .i64 c], .pointer (some ⟨fb, 0, none⟩)] w fun e w' => e = .returned (.int .i64 (bitI (tagOf (x.vs.getD kv zV).skills b))) ∧ Below w.heap.size w w' := by
  subst hv
  obtain ⟨ad, e0, _, tv1⟩ := Kd.flat_cells (d := kVeh) rfl hB zV kv hkv
  cases e0
  have ZV := sA (tv1 0 _ rfl); clear tv1 hB
  generalize (x.vs.getD kv zV).skills = sk at *
  have HH := sA (And.intro h0 (And.intro h1 (And.intro t0 t1)))
  have hkvi : (kv : Int) < (x.vs.length : Int) := by omega
  obtain ⟨HB0, HKX0, HZ0⟩ := opens1 w (.cells #[.int .i64 o, .int .i64 a, .int .i64 b, .int .i64 c] 99)
  have ZF := sA hf; have HKF0 := sA (blk_box hG (.cells #[.int .i64 o, .int .i64 a, .int .i64 b, .int .i64 c] 99)); clear hf hG
  go_enter Tryz.func141, Tryz.ntmps141
  obtain ⟨kx1, kx2⟩ := lay0 HKX0.out
  obtain ⟨kf1, kf2⟩ := lay0 HKF0.out
  have cZF := pC HB0.out ZF.out
  have cZV := pC HB0.out ZV.out
  go_wp2_with fail
  clear kx1 kx2 kf1 kf2 cZF cZV
  refine Grow.wp_region_growB (by kernel_rfl) (by kernel_rfl) ?_
  repeat ((first | (refine Grow.lex_do _ (by rfl) (by intro W hj; obtain ⟨kx1, kx2⟩ := lay hj.out HKX0.out; obtain ⟨kf1, kf2⟩ := lay hj.out HKF0.out; have cZF := pC (bC HB0.out hj.out) ZF.out; have cZV := pC (bC HB0.out hj.out) ZV.out; go_simp; first | exact Grow.Upon.val hj) ?_)); refine Grow.lex_norm (fun K hK => ?_); go_simp; refine hK _ ?_; clear hK K)
  refine Grow.lex_nil (fun w1 hj => ?_)
  have hb := hj.out; clear hj
  have HB1 := sA (bC HB0.out hb); have HKX1 := sA (bB HKX0.out hb); have HKF1 := sA (bB HKF0.out hb); clear hb
  go_wp2
  go_ret
  exact ⟨by rw [tag_val]; rfl, HB1.out⟩
set_option maxRecDepth 100000 in
set_option maxHeartbeats 4000000 in
theorem do_tag0 (o a b c : Int) (fb g : Nat) (fp fn ft fd fl : Int) (k0 k1 k2 k3 k4 : Value) (B0 : Option Addr) (d0 : Nat) (B1 : Option Addr) (d1 : Nat) (B2 : Option Addr) (d2 : Nat) (x : Inst) (fv fq : Int) (s0 s1 s2 : Value) (br : Int) (hf : w.cell? ⟨fb, 0, none⟩ = some (.pointer (some ⟨g, 0, none⟩))) (hG : w.heap[g]? = some (.cells #[.int .i64 fp, .int .i64 fn, .int .i64 ft, .int .i64 fd, .int .i64 fl, k0, k1, k2, k3, k4, .slice B0 x.vs.length d0, .slice B1 x.qs.length d1, .slice B2 x.rs.length d2, .int .i64 fv, .int .i64 fq, s0, s1, s2, .int .i64 br] 125 (0, 0))) (hq : fq < 0) : Calls Tryz.prog 140 #[.agg #[.int .i64 o, .int .i64 a, .int .i64 b, .int .i64 c], .pointer (some ⟨fb, 0, none⟩)] w fun e w' => e = .returned (.int .i64 (bitI false)) ∧ Below w.heap.size w w' := by
  have p0 : decide (0 ≤ fq) = false := decide_eq_false (by omega)
  clear hq
  obtain ⟨HB0, HKX0, HZ0⟩ := opens1 w (.cells #[.int .i64 o, .int .i64 a, .int .i64 b, .int .i64 c] 99)
  have ZF := sA hf; have HKF0 := sA (blk_box hG (.cells #[.int .i64 o, .int .i64 a, .int .i64 b, .int .i64 c] 99)); clear hf hG
  go_enter Tryz.func140, Tryz.ntmps140
  obtain ⟨kx1, kx2⟩ := lay0 HKX0.out
  obtain ⟨kf1, kf2⟩ := lay0 HKF0.out
  have cZF := pC HB0.out ZF.out
  go_wp2_with fail
  clear kx1 kx2 kf1 kf2 cZF
  refine Grow.wp_region_growB (by kernel_rfl) (by kernel_rfl) ?_
  repeat ((first | (refine Grow.lex_skip (by rfl) ?_) | (refine Grow.lex_do _ (by rfl) (by intro W hj; obtain ⟨kx1, kx2⟩ := lay hj.out HKX0.out; obtain ⟨kf1, kf2⟩ := lay hj.out HKF0.out; have cZF := pC (bC HB0.out hj.out) ZF.out; go_simp; first | exact Grow.Upon.val hj | (have cc := impl_flag W false; with_reducible exact Grow.Upon.callB hj (cc.mono fun e w' h => ⟨h.1, h.2 ▸ Below.refl _ _⟩))) ?_)); refine Grow.lex_norm (fun K hK => ?_); go_simp; refine hK _ ?_; clear hK K)
  refine Grow.lex_nil (fun w1 hj => ?_)
  have hb := hj.out; clear hj
  have HB1 := sA (bC HB0.out hb); have HKX1 := sA (bB HKX0.out hb); have HKF1 := sA (bB HKF0.out hb); clear hb
  go_wp2
  go_ret
  exact ⟨rfl, HB1.out⟩
set_option maxRecDepth 100000 in
set_option maxHeartbeats 4000000 in
theorem do_tag1 (o a b c : Int) (fb g : Nat) (fp fn ft fd fl : Int) (k0 k1 k2 k3 k4 : Value) (B0 : Option Addr) (d0 : Nat) (B1 : Option Addr) (d1 : Nat) (B2 : Option Addr) (d2 : Nat) (x : Inst) (fv fq : Int) (s0 s1 s2 : Value) (br : Int) (hf : w.cell? ⟨fb, 0, none⟩ = some (.pointer (some ⟨g, 0, none⟩))) (hG : w.heap[g]? = some (.cells #[.int .i64 fp, .int .i64 fn, .int .i64 ft, .int .i64 fd, .int .i64 fl, k0, k1, k2, k3, k4, .slice B0 x.vs.length d0, .slice B1 x.qs.length d1, .slice B2 x.rs.length d2, .int .i64 fv, .int .i64 fq, s0, s1, s2, .int .i64 br] 125 (0, 0))) (kq : Nat) (hv : fq = kq) (hkq : kq < x.qs.length) (hB : kReq.C w B1 x.qs.length x.qs) (t0 : 0 ≤ b) (t1 : b ≤ 15) (h0 : 0 ≤ (x.qs.getD kq zQ).tags) (h1 : (x.qs.getD kq zQ).tags ≤ 65535) : Calls Tryz.prog 140 #[.agg #[.int .i64 o, .int .i64 a, .int .i64 b, .int .i64 c], .pointer (some ⟨fb, 0, none⟩)] w fun e w' => e = .returned (.int .i64 (bitI (tagOf (x.qs.getD kq zQ).tags b))) ∧ Below w.heap.size w w' := by
  subst hv
  have p0 : decide (0 ≤ (kq : Int)) = true := decide_eq_true (by omega)
  have p1 : (if (kq : Int) < 0 then (0 : Int) else (kq : Int)) = kq := if_neg (by omega)
  have p2 : (0 : Int) ≤ (kq : Int) := by omega
  obtain ⟨ad, e0, _, tv1⟩ := Kd.flat_cells (d := kReq) rfl hB zQ kq hkq
  cases e0
  have ZV := sA (tv1 0 _ rfl); clear tv1 hB
  generalize (x.qs.getD kq zQ).tags = sk at *
  have hkvi : (kq : Int) < (x.qs.length : Int) := by omega
  obtain ⟨HB0, HKX0, HZ0⟩ := opens1 w (.cells #[.int .i64 o, .int .i64 a, .int .i64 b, .int .i64 c] 99)
  have ZF := sA hf; have HKF0 := sA (blk_box hG (.cells #[.int .i64 o, .int .i64 a, .int .i64 b, .int .i64 c] 99)); clear hf hG
  go_enter Tryz.func140, Tryz.ntmps140
  obtain ⟨kx1, kx2⟩ := lay0 HKX0.out
  obtain ⟨kf1, kf2⟩ := lay0 HKF0.out
  have cZF := pC HB0.out ZF.out
  have cZV := pC HB0.out ZV.out
  go_wp2_with fail
  clear kx1 kx2 kf1 kf2 cZF cZV
  refine Grow.wp_region_growB (by kernel_rfl) (by kernel_rfl) ?_
  repeat ((first | (refine Grow.lex_skip (by rfl) ?_) | (refine Grow.lex_do _ (by rfl) (by intro W hj; obtain ⟨kx1, kx2⟩ := lay hj.out HKX0.out; obtain ⟨kf1, kf2⟩ := lay hj.out HKF0.out; have cZF := pC (bC HB0.out hj.out) ZF.out; have cZV := pC (bC HB0.out hj.out) ZV.out; go_simp; first | exact Grow.Upon.val hj | (have cc := impl_flag W (sk / 2 ^ b.toNat % 2 == 1); with_reducible exact Grow.Upon.callB hj (cc.mono fun e w' h => ⟨h.1, h.2 ▸ Below.refl _ _⟩)) | (have cc := impl_flag W (decide (sk / 2 ^ b.toNat % 2 = 1)); with_reducible exact Grow.Upon.callB hj (cc.mono fun e w' h => ⟨h.1, h.2 ▸ Below.refl _ _⟩))) ?_)); refine Grow.lex_norm (fun K hK => ?_); go_simp; refine hK _ ?_; clear hK K)
  refine Grow.lex_nil (fun w1 hj => ?_)
  have hb := hj.out; clear hj
  have HB1 := sA (bC HB0.out hb); have HKX1 := sA (bB HKX0.out hb); have HKF1 := sA (bB HKF0.out hb); clear hb
  go_wp2
  go_ret
  exact ⟨rfl, HB1.out⟩
set_option maxRecDepth 100000 in
set_option maxHeartbeats 4000000 in
theorem do_load0 (o a b c : Int) (fb g : Nat) (fp fn ft fd fl : Int) (k0 k1 k2 k3 k4 : Value) (B0 : Option Addr) (d0 : Nat) (B1 : Option Addr) (d1 : Nat) (B2 : Option Addr) (d2 : Nat) (x : Inst) (fv fq : Int) (s0 s1 s2 : Value) (br : Int) (hf : w.cell? ⟨fb, 0, none⟩ = some (.pointer (some ⟨g, 0, none⟩))) (hG : w.heap[g]? = some (.cells #[.int .i64 fp, .int .i64 fn, .int .i64 ft, .int .i64 fd, .int .i64 fl, k0, k1, k2, k3, k4, .slice B0 x.vs.length d0, .slice B1 x.qs.length d1, .slice B2 x.rs.length d2, .int .i64 fv, .int .i64 fq, s0, s1, s2, .int .i64 br] 125 (0, 0))) (hq : fq < 0) : Calls Tryz.prog 142 #[.agg #[.int .i64 o, .int .i64 a, .int .i64 b, .int .i64 c], .pointer (some ⟨fb, 0, none⟩)] w fun e w' => e = .returned (.int .i64 (0)) ∧ Below w.heap.size w w' := by
  have p0 : decide (fq < 0) = true := decide_eq_true (by omega)
  clear hq
  obtain ⟨HB0, HKX0, HZ0⟩ := opens1 w (.cells #[.int .i64 o, .int .i64 a, .int .i64 b, .int .i64 c] 99)
  have ZF := sA hf; have HKF0 := sA (blk_box hG (.cells #[.int .i64 o, .int .i64 a, .int .i64 b, .int .i64 c] 99)); clear hf hG
  go_enter Tryz.func142, Tryz.ntmps142
  obtain ⟨kx1, kx2⟩ := lay0 HKX0.out
  obtain ⟨kf1, kf2⟩ := lay0 HKF0.out
  have cZF := pC HB0.out ZF.out
  go_wp2
  go_ret
  exact ⟨rfl, HB0.out⟩
set_option maxRecDepth 100000 in
set_option maxHeartbeats 4000000 in
theorem do_load1 (o a b c : Int) (As : Option Addr) (cs : Nat) (sl : List Int) (fb g : Nat) (fp fn ft fd fl : Int) (k0 k1 k2 k3 k4 : Value) (B0 : Option Addr) (d0 : Nat) (B1 : Option Addr) (d1 : Nat) (B2 : Option Addr) (d2 : Nat) (x : Inst) (fv fq : Int) (s0 s1 : Value) (br : Int) (hf : w.cell? ⟨fb, 0, none⟩ = some (.pointer (some ⟨g, 0, none⟩))) (hG : w.heap[g]? = some (.cells #[.int .i64 fp, .int .i64 fn, .int .i64 ft, .int .i64 fd, .int .i64 fl, k0, k1, k2, k3, k4, .slice B0 x.vs.length d0, .slice B1 x.qs.length d1, .slice B2 x.rs.length d2, .int .i64 fv, .int .i64 fq, s0, s1, (.slice As sl.length cs), .int .i64 br] 125 (0, 0))) (hq : 0 ≤ fq) (hS : kInt.C w As sl.length sl) (ks : Nat) (hks : b * x.qs.length + fq = ks) (hk0 : ks < sl.length) (hbq : 0 ≤ b * x.qs.length) (hsl : sl.length ≤ 2000000) (hx : x.qs.length ≤ 1048576) : Calls Tryz.prog 142 #[.agg #[.int .i64 o, .int .i64 a, .int .i64 b, .int .i64 c], .pointer (some ⟨fb, 0, none⟩)] w fun e w' => e = .returned (.int .i64 (atI sl ks)) ∧ Below w.heap.size w w' := by
  have p0 : decide (fq < 0) = false := decide_eq_false (by omega)
  have q0 : IntKind.i64.wrap (b * (x.qs.length : Int)) = b * (x.qs.length : Int) := IntWalk.i64_in _ (by omega)
  have q1 : IntKind.i64.wrap (b * (x.qs.length : Int) + fq) = (ks : Int) := by rw [hks]; exact IntWalk.i64_in _ (by omega)
  obtain ⟨ad, rfl, z0⟩ := int_at hS hk0
  generalize atI sl ks = y0 at *
  have ZV := sA z0; have hb : (ks : Int) < (sl.length : Int) := by omega
  clear z0 hS hks hbq hsl hq
  obtain ⟨HB0, HKX0, HZ0⟩ := opens1 w (.cells #[.int .i64 o, .int .i64 a, .int .i64 b, .int .i64 c] 99)
  have ZF := sA hf; have HKF0 := sA (blk_box hG (.cells #[.int .i64 o, .int .i64 a, .int .i64 b, .int .i64 c] 99)); clear hf hG
  go_enter Tryz.func142, Tryz.ntmps142
  obtain ⟨kx1, kx2⟩ := lay0 HKX0.out
  obtain ⟨kf1, kf2⟩ := lay0 HKF0.out
  have cZF := pC HB0.out ZF.out
  have cZV := pC HB0.out ZV.out
  go_wp2_with fail
  clear kx1 kx2 kf1 kf2 cZF cZV
  refine Grow.wp_region_growB (by kernel_rfl) (by kernel_rfl) ?_
  repeat ((first | (refine Grow.lex_do _ (by rfl) (by intro W hj; obtain ⟨kx1, kx2⟩ := lay hj.out HKX0.out; obtain ⟨kf1, kf2⟩ := lay hj.out HKF0.out; have cZF := pC (bC HB0.out hj.out) ZF.out; have cZV := pC (bC HB0.out hj.out) ZV.out; go_simp; first | exact Grow.Upon.val hj | (have cc := impl_requests W B0 B1 B2 x.vs.length x.qs.length x.rs.length d0 d1 d2 hx; with_reducible exact Grow.Upon.callB hj cc)) ?_)); refine Grow.lex_norm (fun K hK => ?_); go_simp; refine hK _ ?_; clear hK K)
  refine Grow.lex_nil (fun w1 hj => ?_)
  have hb := hj.out; clear hj
  have HB1 := sA (bC HB0.out hb); have HKX1 := sA (bB HKX0.out hb); have HKF1 := sA (bB HKF0.out hb); clear hb
  go_wp2
  go_ret
  exact ⟨rfl, HB1.out⟩
set_option maxRecDepth 100000 in
set_option maxHeartbeats 4000000 in
theorem do_jz0 (o b c : Int) (rb : Nat) (A : Addr) (cR : Nat) (xs : List Int) (hr : w.cell? ⟨rb, 0, none⟩ = some (.slice (some A) xs.length cR)) (hA : kInt.C w (some A) xs.length xs) (ka : Nat) (hk0 : ka < xs.length) (hz : atI xs ka = 0) : Calls Tryz.prog 143 #[.agg #[.int .i64 o, .int .i64 (ka : Int), .int .i64 b, .int .i64 c], .pointer (some ⟨rb, 0, none⟩)] w fun e w' => e = .returned (.int .i64 (b)) ∧ Below w.heap.size w w' := by
  obtain ⟨ad, e0, z0⟩ := int_at hA hk0; injection e0 with e0; subst e0
  generalize atI xs ka = y0 at *
  have ZR := sA hr; have Z0 := sA z0
  have hb : (ka : Int) < (xs.length : Int) := by omega
  clear hr z0 hA
  have p0 : (y0 == 0) = true := beq_iff_eq.2 hz; have p1 : decide (y0 = 0) = true := decide_eq_true hz
  clear hz
  obtain ⟨HB0, HKX0, HZ0⟩ := opens1 w (.cells #[.int .i64 o, .int .i64 (ka : Int), .int .i64 b, .int .i64 c] 99)
  go_enter Tryz.func143, Tryz.ntmps143
  obtain ⟨kx1, kx2⟩ := lay0 HKX0.out
  have cZR := pC HB0.out ZR.out
  have cZ0 := pC HB0.out Z0.out
  go_wp2
  go_ret
  exact ⟨rfl, HB0.out⟩
set_option maxRecDepth 100000 in
set_option maxHeartbeats 4000000 in
theorem do_jz1 (o b c : Int) (rb : Nat) (A : Addr) (cR : Nat) (xs : List Int) (hr : w.cell? ⟨rb, 0, none⟩ = some (.slice (some A) xs.length cR)) (hA : kInt.C w (some A) xs.length xs) (ka : Nat) (hk0 : ka < xs.length) (hz : atI xs ka ≠ 0) : Calls Tryz.prog 143 #[.agg #[.int .i64 o, .int .i64 (ka : Int), .int .i64 b, .int .i64 c], .pointer (some ⟨rb, 0, none⟩)] w fun e w' => e = .returned (.int .i64 (-1)) ∧ Below w.heap.size w w' := by
  obtain ⟨ad, e0, z0⟩ := int_at hA hk0; injection e0 with e0; subst e0
  generalize atI xs ka = y0 at *
  have ZR := sA hr; have Z0 := sA z0
  have hb : (ka : Int) < (xs.length : Int) := by omega
  clear hr z0 hA
  have p0 : (y0 == 0) = false := beq_eq_false_iff_ne.2 hz; have p1 : decide (y0 = 0) = false := decide_eq_false hz
  clear hz
  obtain ⟨HB0, HKX0, HZ0⟩ := opens1 w (.cells #[.int .i64 o, .int .i64 (ka : Int), .int .i64 b, .int .i64 c] 99)
  go_enter Tryz.func143, Tryz.ntmps143
  obtain ⟨kx1, kx2⟩ := lay0 HKX0.out
  have cZR := pC HB0.out ZR.out
  have cZ0 := pC HB0.out Z0.out
  go_wp2
  go_ret
  exact ⟨rfl, HB0.out⟩
set_option maxRecDepth 100000 in
set_option maxHeartbeats 4000000 in
theorem do_jnz0 (o b c : Int) (rb : Nat) (A : Addr) (cR : Nat) (xs : List Int) (hr : w.cell? ⟨rb, 0, none⟩ = some (.slice (some A) xs.length cR)) (hA : kInt.C w (some A) xs.length xs) (ka : Nat) (hk0 : ka < xs.length) (hz : atI xs ka = 0) : Calls Tryz.prog 144 #[.agg #[.int .i64 o, .int .i64 (ka : Int), .int .i64 b, .int .i64 c], .pointer (some ⟨rb, 0, none⟩)] w fun e w' => e = .returned (.int .i64 (-1)) ∧ Below w.heap.size w w' := by
  obtain ⟨ad, e0, z0⟩ := int_at hA hk0; injection e0 with e0; subst e0
  generalize atI xs ka = y0 at *
  have ZR := sA hr; have Z0 := sA z0
  have hb : (ka : Int) < (xs.length : Int) := by omega
  clear hr z0 hA
  have p0 : (y0 == 0) = true := beq_iff_eq.2 hz; have p1 : decide (y0 = 0) = true := decide_eq_true hz
  clear hz
  obtain ⟨HB0, HKX0, HZ0⟩ := opens1 w (.cells #[.int .i64 o, .int .i64 (ka : Int), .int .i64 b, .int .i64 c] 99)
  go_enter Tryz.func144, Tryz.ntmps144
  obtain ⟨kx1, kx2⟩ := lay0 HKX0.out
  have cZR := pC HB0.out ZR.out
  have cZ0 := pC HB0.out Z0.out
  go_wp2
  go_ret
  exact ⟨rfl, HB0.out⟩
set_option maxRecDepth 100000 in
set_option maxHeartbeats 4000000 in
theorem do_jnz1 (o b c : Int) (rb : Nat) (A : Addr) (cR : Nat) (xs : List Int) (hr : w.cell? ⟨rb, 0, none⟩ = some (.slice (some A) xs.length cR)) (hA : kInt.C w (some A) xs.length xs) (ka : Nat) (hk0 : ka < xs.length) (hz : atI xs ka ≠ 0) : Calls Tryz.prog 144 #[.agg #[.int .i64 o, .int .i64 (ka : Int), .int .i64 b, .int .i64 c], .pointer (some ⟨rb, 0, none⟩)] w fun e w' => e = .returned (.int .i64 (b)) ∧ Below w.heap.size w w' := by
  obtain ⟨ad, e0, z0⟩ := int_at hA hk0; injection e0 with e0; subst e0
  generalize atI xs ka = y0 at *
  have ZR := sA hr; have Z0 := sA z0
  have hb : (ka : Int) < (xs.length : Int) := by omega
  clear hr z0 hA
  have p0 : (y0 == 0) = false := beq_eq_false_iff_ne.2 hz; have p1 : decide (y0 = 0) = false := decide_eq_false hz
  clear hz
  obtain ⟨HB0, HKX0, HZ0⟩ := opens1 w (.cells #[.int .i64 o, .int .i64 (ka : Int), .int .i64 b, .int .i64 c] 99)
  go_enter Tryz.func144, Tryz.ntmps144
  obtain ⟨kx1, kx2⟩ := lay0 HKX0.out
  have cZR := pC HB0.out ZR.out
  have cZ0 := pC HB0.out Z0.out
  go_wp2
  go_ret
  exact ⟨rfl, HB0.out⟩
set_option maxRecDepth 100000 in
set_option maxHeartbeats 4000000 in
theorem do_jump (o a b c : Int) : Calls Tryz.prog 145 #[.agg #[.int .i64 o, .int .i64 a, .int .i64 b, .int .i64 c]] w fun e w' => e = .returned (.int .i64 b) ∧ Below w.heap.size w w' := by
  obtain ⟨HB0, HKX0, HZ0⟩ := opens1 w (.cells #[.int .i64 o, .int .i64 a, .int .i64 b, .int .i64 c] 99)
  go_enter Tryz.func145, Tryz.ntmps145
  go_wp2
  go_ret
  exact ⟨rfl, HB0.out⟩
end
end Go.Proofs.YtlhpbpkefkabgaaGreat.L1
