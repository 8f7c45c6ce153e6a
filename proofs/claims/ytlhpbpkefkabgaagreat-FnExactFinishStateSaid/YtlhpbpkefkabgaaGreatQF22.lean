/- The closures of the program's machine that read the frame. The closures of the program's machine that write: a register, a rule that broke, a slot. -/
import Derived.Test.YtlhpbpkefkabgaaGreatQF21
namespace Go.Proofs.YtlhpbpkefkabgaaGreat.L1
open Go.RowKit Go.Proofs.YtlhpbpkefkabgaaGreatW.PrintWords Go.Proofs.YtlhpbpkefkabgaaGreat.B
set_option linter.unusedVariables false
set_option linter.unusedSimpArgs false
attribute [local go_sem] mk_cell mk_frozen
theorem i64_and1 (n : Int) : bits .and .i64 n 1 = n % 2 := by
  have h1 : (BitVec.ofInt 64 1).toNat = 2 ^ 1 - 1 := by decide
  have key : (BitVec.ofInt 64 n &&& BitVec.ofInt 64 1).toNat = (n % ((2 ^ 64 : Nat) : Int)).toNat % 2 ^ 1 := by
    rw [BitVec.toNat_and, BitVec.toNat_ofInt, h1, Nat.and_two_pow_sub_one_eq_mod]
  show IntKind.i64.wrap ((BitVec.ofInt 64 n &&& BitVec.ofInt 64 1).toNat : Nat) = n % 2
  rw [key, IntKind.wrap_i64]
  omega
attribute [local go_sem] i64_and1
theorem tag_val (s t : Int) : bitI (tagOf s t) = s / 2 ^ t.toNat % 2 := by
  unfold tagOf bitI
  rcases (show s / 2 ^ t.toNat % 2 = 0 ∨ s / 2 ^ t.toNat % 2 = 1 by omega) with h | h <;> rw [h] <;> rfl
section
variable (w : World)
set_option maxRecDepth 100000 in
set_option maxHeartbeats 4000000 in
theorem do_skill (o a b c : Int) (fb g : Nat) (fp fn ft fd fl : Int) (k0 k1 k2 k3 k4 : Value) (B0 : Option Addr) (d0 : Nat) (B1 : Option Addr) (d1 : Nat) (B2 : Option Addr) (d2 : Nat) (x : Inst) (fv fq : Int) (s0 s1 s2 : Value) (br : Int) (hf : w.cell? ⟨fb, 0, none⟩ = some (.pointer (some ⟨g, 0, none⟩))) (hG : w.heap[g]? = some (.cells #[.int .i64 fp, .int .i64 fn, .int .i64 ft, .int .i64 fd, .int .i64 fl, k0, k1, k2, k3, k4, .slice B0 x.vs.length d0, .slice B1 x.qs.length d1, .slice B2 x.rs.length d2, .int .i64 fv, .int .i64 fq, s0, s1, s2, .int .i64 br] 125 (0, 0))) (kv : Nat) (hv : fv = kv) (hkv : kv < x.vs.length) (hB : kVeh.C w B0 x.vs.length x.vs) (t0 : 0 ≤ b) (t1 : b ≤ 15) (h0 : 0 ≤ (x.vs.getD kv zV).skills) (h1 : (x.vs.getD kv zV).skills ≤ 65535) : Calls Tryz.prog 141 #[.agg #[.int .i64 o, .int .i64 a, .int .i64 b, .int .i64 c], .pointer (some ⟨fb, 0, none⟩)] w fun e w' => e = .returned (.int .i64 (bitI (tagOf (x.vs.getD kv zV).skills b))) ∧ Below w.heap.size w w' := by
  subst hv
  obtain ⟨ad, e0, _, tv1⟩ := Kd.flat_cells (d := kVeh) rfl hB zV kv hkv
  cases e0
  have ZV := Aside0.mk (tv1 0 _ rfl); clear tv1 hB
  generalize (x.vs.getD kv zV).skills = sk at *
  have HH := Aside0.mk (And.intro h0 (And.intro h1 (And.intro t0 t1)))
  have hkvi : (kv : Int) < (x.vs.length : Int) := by omega
  have HB0 := Aside0.mk (below_alloc (Below.refl w.heap.size w) (.cells #[.int .i64 o, .int .i64 a, .int .i64 b, .int .i64 c] 99))
  have h := al_new w (.cells #[.int .i64 o, .int .i64 a, .int .i64 b, .int .i64 c] 99)
  have HKX0 := Aside0.mk h; clear h
  have HZ0 := Aside0.mk (show (w.alloc (.cells #[.int .i64 o, .int .i64 a, .int .i64 b, .int .i64 c] 99)).heap.size = w.heap.size + 1 by simp only [al_size])
  have ZF := Aside0.mk hf; have HKF0 := Aside0.mk (blk_box hG (.cells #[.int .i64 o, .int .i64 a, .int .i64 b, .int .i64 c] 99)); clear hf hG
  go_enter Tryz.func141, Tryz.ntmps141
  obtain ⟨kx1, kx2⟩ := lay (Below.refl _ _) HKX0.out
  obtain ⟨kf1, kf2⟩ := lay (Below.refl _ _) HKF0.out
  have cZF := pw_cell_below HB0.out ZF.out
  have cZV := pw_cell_below HB0.out ZV.out
  go_wp2_with fail
  clear kx1 kx2 kf1 kf2 cZF cZV
  refine Grow.wp_region_growB (by kernel_rfl) (by kernel_rfl) ?_
  repeat ((first | (refine Grow.lex_do _ (by rfl) (by intro W hj; obtain ⟨kx1, kx2⟩ := lay (Below.refl _ _) (blk_below HKX0.out hj.out); obtain ⟨kf1, kf2⟩ := lay (Below.refl _ _) (blk_below HKF0.out hj.out); have cZF := pw_cell_below (bel_call HB0.out hj.out) ZF.out; have cZV := pw_cell_below (bel_call HB0.out hj.out) ZV.out; go_simp; first | exact Grow.Upon.val hj) ?_)); refine Grow.lex_norm (fun K hK => ?_); go_simp; refine hK _ ?_; clear hK K)
  refine Grow.lex_nil (fun w1 hj => ?_)
  have hb := hj.out; clear hj
  have HB1 := Aside0.mk (bel_call HB0.out hb); have HKX1 := Aside0.mk (blk_below HKX0.out hb); have HKF1 := Aside0.mk (blk_below HKF0.out hb); clear hb
  go_wp2
  go_ret
  exact ⟨by rw [tag_val]; rfl, HB1.out⟩
set_option maxRecDepth 100000 in
set_option maxHeartbeats 4000000 in
theorem do_tag0 (o a b c : Int) (fb g : Nat) (fp fn ft fd fl : Int) (k0 k1 k2 k3 k4 : Value) (B0 : Option Addr) (d0 : Nat) (B1 : Option Addr) (d1 : Nat) (B2 : Option Addr) (d2 : Nat) (x : Inst) (fv fq : Int) (s0 s1 s2 : Value) (br : Int) (hf : w.cell? ⟨fb, 0, none⟩ = some (.pointer (some ⟨g, 0, none⟩))) (hG : w.heap[g]? = some (.cells #[.int .i64 fp, .int .i64 fn, .int .i64 ft, .int .i64 fd, .int .i64 fl, k0, k1, k2, k3, k4, .slice B0 x.vs.length d0, .slice B1 x.qs.length d1, .slice B2 x.rs.length d2, .int .i64 fv, .int .i64 fq, s0, s1, s2, .int .i64 br] 125 (0, 0))) (hq : fq < 0) : Calls Tryz.prog 140 #[.agg #[.int .i64 o, .int .i64 a, .int .i64 b, .int .i64 c], .pointer (some ⟨fb, 0, none⟩)] w fun e w' => e = .returned (.int .i64 (bitI false)) ∧ Below w.heap.size w w' := by
  have p0 : decide (0 ≤ fq) = false := decide_eq_false (by omega)
  clear hq
  have HB0 := Aside0.mk (below_alloc (Below.refl w.heap.size w) (.cells #[.int .i64 o, .int .i64 a, .int .i64 b, .int .i64 c] 99))
  have h := al_new w (.cells #[.int .i64 o, .int .i64 a, .int .i64 b, .int .i64 c] 99)
  have HKX0 := Aside0.mk h; clear h
  have HZ0 := Aside0.mk (show (w.alloc (.cells #[.int .i64 o, .int .i64 a, .int .i64 b, .int .i64 c] 99)).heap.size = w.heap.size + 1 by simp only [al_size])
  have ZF := Aside0.mk hf; have HKF0 := Aside0.mk (blk_box hG (.cells #[.int .i64 o, .int .i64 a, .int .i64 b, .int .i64 c] 99)); clear hf hG
  go_enter Tryz.func140, Tryz.ntmps140
  obtain ⟨kx1, kx2⟩ := lay (Below.refl _ _) HKX0.out
  obtain ⟨kf1, kf2⟩ := lay (Below.refl _ _) HKF0.out
  have cZF := pw_cell_below HB0.out ZF.out
  go_wp2_with fail
  clear kx1 kx2 kf1 kf2 cZF
  refine Grow.wp_region_growB (by kernel_rfl) (by kernel_rfl) ?_
  repeat ((first | (refine Grow.lex_skip (by rfl) ?_) | (refine Grow.lex_do _ (by rfl) (by intro W hj; obtain ⟨kx1, kx2⟩ := lay (Below.refl _ _) (blk_below HKX0.out hj.out); obtain ⟨kf1, kf2⟩ := lay (Below.refl _ _) (blk_below HKF0.out hj.out); have cZF := pw_cell_below (bel_call HB0.out hj.out) ZF.out; go_simp; first | exact Grow.Upon.val hj | (have cc := impl_flag W false; with_reducible exact Grow.Upon.callB hj (cc.mono fun e w' h => ⟨h.1, h.2 ▸ Below.refl _ _⟩))) ?_)); refine Grow.lex_norm (fun K hK => ?_); go_simp; refine hK _ ?_; clear hK K)
  refine Grow.lex_nil (fun w1 hj => ?_)
  have hb := hj.out; clear hj
  have HB1 := Aside0.mk (bel_call HB0.out hb); have HKX1 := Aside0.mk (blk_below HKX0.out hb); have HKF1 := Aside0.mk (blk_below HKF0.out hb); clear hb
  go_wp2
  go_ret
  exact ⟨rfl, HB1.out⟩
set_option maxRecDepth 100000 in
set_option maxHeartbeats 4000000 in
theorem do_tag1 (o a b c : Int) (fb g : Nat) (fp fn ft fd fl : Int) (k0 k1 k2 k3 k4 : Value) (B0 : Option Addr) (d0 : Nat) (B1 : Option Addr) (d1 : Nat) (B2 : Option Addr) (d2 : Nat) (x : Inst) (fv fq : Int) (s0 s1 s2 : Value) (br : Int) (hf : w.cell? ⟨fb, 0, none⟩ = some (.pointer (some ⟨g, 0, none⟩))) (hG : w.heap[g]? = some (.cells #[.int .i64 fp, .int .i64 fn, .int .i64 ft, .int .i64 fd, .int .i64 fl, k0, k1, k2, k3, k4, .slice B0 x.vs.length d0, .slice B1 x.qs.length d1, .slice B2 x.rs.length d2, .int .i64 fv, .int .i64 fq, s0, s1, s2, .int .i64 br] 125 (0, 0))) (kq : Nat) (hv : fq = kq) (hkq : kq < x.qs.length) (hB : kReq.C w B1 x.qs.length x.qs) (t0 : 0 ≤ b) (t1 : b ≤ 15) (h0 : 0 ≤ (x.qs.getD kq zQ).tags) (h1 : (x.qs.getD kq zQ).tags ≤ 65535) : Calls Tryz.prog 140 #[.agg #[.int .i64 o, .int .i64 a, .int .i64 b, .int .i64 c], .pointer (some ⟨fb, 0, none⟩)] w fun e w' => e = .returned (.int .i64 (bitI (tagOf (x.qs.getD kq zQ).tags b))) ∧ Below w.heap.size w w' := by
  subst hv
  have p0 : decide (0 ≤ (kq : Int)) = true := decide_eq_true (by omega)
  have p1 : (if (kq : Int) < 0 then (0 : Int) else (kq : Int)) = kq := if_neg (by omega)
  have p2 : (0 : Int) ≤ (kq : Int) := by omega
  obtain ⟨ad, e0, _, tv1⟩ := Kd.flat_cells (d := kReq) rfl hB zQ kq hkq
  cases e0
  have ZV := Aside0.mk (tv1 0 _ rfl); clear tv1 hB
  generalize (x.qs.getD kq zQ).tags = sk at *
  have hkvi : (kq : Int) < (x.qs.length : Int) := by omega
  have HB0 := Aside0.mk (below_alloc (Below.refl w.heap.size w) (.cells #[.int .i64 o, .int .i64 a, .int .i64 b, .int .i64 c] 99))
  have h := al_new w (.cells #[.int .i64 o, .int .i64 a, .int .i64 b, .int .i64 c] 99)
  have HKX0 := Aside0.mk h; clear h
  have HZ0 := Aside0.mk (show (w.alloc (.cells #[.int .i64 o, .int .i64 a, .int .i64 b, .int .i64 c] 99)).heap.size = w.heap.size + 1 by simp only [al_size])
  have ZF := Aside0.mk hf; have HKF0 := Aside0.mk (blk_box hG (.cells #[.int .i64 o, .int .i64 a, .int .i64 b, .int .i64 c] 99)); clear hf hG
  go_enter Tryz.func140, Tryz.ntmps140
  obtain ⟨kx1, kx2⟩ := lay (Below.refl _ _) HKX0.out
  obtain ⟨kf1, kf2⟩ := lay (Below.refl _ _) HKF0.out
  have cZF := pw_cell_below HB0.out ZF.out
  have cZV := pw_cell_below HB0.out ZV.out
  go_wp2_with fail
  clear kx1 kx2 kf1 kf2 cZF cZV
  refine Grow.wp_region_growB (by kernel_rfl) (by kernel_rfl) ?_
  repeat ((first | (refine Grow.lex_skip (by rfl) ?_) | (refine Grow.lex_do _ (by rfl) (by intro W hj; obtain ⟨kx1, kx2⟩ := lay (Below.refl _ _) (blk_below HKX0.out hj.out); obtain ⟨kf1, kf2⟩ := lay (Below.refl _ _) (blk_below HKF0.out hj.out); have cZF := pw_cell_below (bel_call HB0.out hj.out) ZF.out; have cZV := pw_cell_below (bel_call HB0.out hj.out) ZV.out; go_simp; first | exact Grow.Upon.val hj | (have cc := impl_flag W (sk / 2 ^ b.toNat % 2 == 1); with_reducible exact Grow.Upon.callB hj (cc.mono fun e w' h => ⟨h.1, h.2 ▸ Below.refl _ _⟩)) | (have cc := impl_flag W (decide (sk / 2 ^ b.toNat % 2 = 1)); with_reducible exact Grow.Upon.callB hj (cc.mono fun e w' h => ⟨h.1, h.2 ▸ Below.refl _ _⟩))) ?_)); refine Grow.lex_norm (fun K hK => ?_); go_simp; refine hK _ ?_; clear hK K)
  refine Grow.lex_nil (fun w1 hj => ?_)
  have hb := hj.out; clear hj
  have HB1 := Aside0.mk (bel_call HB0.out hb); have HKX1 := Aside0.mk (blk_below HKX0.out hb); have HKF1 := Aside0.mk (blk_below HKF0.out hb); clear hb
  go_wp2
  go_ret
  exact ⟨rfl, HB1.out⟩
set_option maxRecDepth 100000 in
set_option maxHeartbeats 4000000 in
theorem do_load0 (o a b c : Int) (fb g : Nat) (fp fn ft fd fl : Int) (k0 k1 k2 k3 k4 : Value) (B0 : Option Addr) (d0 : Nat) (B1 : Option Addr) (d1 : Nat) (B2 : Option Addr) (d2 : Nat) (x : Inst) (fv fq : Int) (s0 s1 s2 : Value) (br : Int) (hf : w.cell? ⟨fb, 0, none⟩ = some (.pointer (some ⟨g, 0, none⟩))) (hG : w.heap[g]? = some (.cells #[.int .i64 fp, .int .i64 fn, .int .i64 ft, .int .i64 fd, .int .i64 fl, k0, k1, k2, k3, k4, .slice B0 x.vs.length d0, .slice B1 x.qs.length d1, .slice B2 x.rs.length d2, .int .i64 fv, .int .i64 fq, s0, s1, s2, .int .i64 br] 125 (0, 0))) (hq : fq < 0) : Calls Tryz.prog 142 #[.agg #[.int .i64 o, .int .i64 a, .int .i64 b, .int .i64 c], .pointer (some ⟨fb, 0, none⟩)] w fun e w' => e = .returned (.int .i64 (0)) ∧ Below w.heap.size w w' := by
  have p0 : decide (fq < 0) = true := decide_eq_true (by omega)
  clear hq
  have HB0 := Aside0.mk (below_alloc (Below.refl w.heap.size w) (.cells #[.int .i64 o, .int .i64 a, .int .i64 b, .int .i64 c] 99))
  have h := al_new w (.cells #[.int .i64 o, .int .i64 a, .int .i64 b, .int .i64 c] 99)
  have HKX0 := Aside0.mk h; clear h
  have HZ0 := Aside0.mk (show (w.alloc (.cells #[.int .i64 o, .int .i64 a, .int .i64 b, .int .i64 c] 99)).heap.size = w.heap.size + 1 by simp only [al_size])
  have ZF := Aside0.mk hf; have HKF0 := Aside0.mk (blk_box hG (.cells #[.int .i64 o, .int .i64 a, .int .i64 b, .int .i64 c] 99)); clear hf hG
  go_enter Tryz.func142, Tryz.ntmps142
  obtain ⟨kx1, kx2⟩ := lay (Below.refl _ _) HKX0.out
  obtain ⟨kf1, kf2⟩ := lay (Below.refl _ _) HKF0.out
  have cZF := pw_cell_below HB0.out ZF.out
  go_wp2
  go_ret
  exact ⟨rfl, HB0.out⟩
set_option maxRecDepth 100000 in
set_option maxHeartbeats 4000000 in
theorem do_load1 (o a b c : Int) (As : Option Addr) (cs : Nat) (sl : List Int) (fb g : Nat) (fp fn ft fd fl : Int) (k0 k1 k2 k3 k4 : Value) (B0 : Option Addr) (d0 : Nat) (B1 : Option Addr) (d1 : Nat) (B2 : Option Addr) (d2 : Nat) (x : Inst) (fv fq : Int) (s0 s1 : Value) (br : Int) (hf : w.cell? ⟨fb, 0, none⟩ = some (.pointer (some ⟨g, 0, none⟩))) (hG : w.heap[g]? = some (.cells #[.int .i64 fp, .int .i64 fn, .int .i64 ft, .int .i64 fd, .int .i64 fl, k0, k1, k2, k3, k4, .slice B0 x.vs.length d0, .slice B1 x.qs.length d1, .slice B2 x.rs.length d2, .int .i64 fv, .int .i64 fq, s0, s1, (.slice As sl.length cs), .int .i64 br] 125 (0, 0))) (hq : 0 ≤ fq) (hS : kInt.C w As sl.length sl) (ks : Nat) (hks : b * x.qs.length + fq = ks) (hk0 : ks < sl.length) (hbq : 0 ≤ b * x.qs.length) (hsl : sl.length ≤ 2000000) (hx : x.qs.length ≤ 1048576) : Calls Tryz.prog 142 #[.agg #[.int .i64 o, .int .i64 a, .int .i64 b, .int .i64 c], .pointer (some ⟨fb, 0, none⟩)] w fun e w' => e = .returned (.int .i64 (atI sl ks)) ∧ Below w.heap.size w w' := by
  have p0 : decide (fq < 0) = false := decide_eq_false (by omega)
  have q0 : IntKind.i64.wrap (b * (x.qs.length : Int)) = b * (x.qs.length : Int) := IntWalk.i64_in _ (by omega)
  have q1 : IntKind.i64.wrap (b * (x.qs.length : Int) + fq) = (ks : Int) := by rw [hks]; exact IntWalk.i64_in _ (by omega)
  obtain ⟨ad, rfl, z0⟩ := int_at hS hk0
  generalize atI sl ks = y0 at *
  have ZV := Aside0.mk z0; have hb : (ks : Int) < (sl.length : Int) := by omega
  clear z0 hS hks hbq hsl hq
  have HB0 := Aside0.mk (below_alloc (Below.refl w.heap.size w) (.cells #[.int .i64 o, .int .i64 a, .int .i64 b, .int .i64 c] 99))
  have h := al_new w (.cells #[.int .i64 o, .int .i64 a, .int .i64 b, .int .i64 c] 99)
  have HKX0 := Aside0.mk h; clear h
  have HZ0 := Aside0.mk (show (w.alloc (.cells #[.int .i64 o, .int .i64 a, .int .i64 b, .int .i64 c] 99)).heap.size = w.heap.size + 1 by simp only [al_size])
  have ZF := Aside0.mk hf; have HKF0 := Aside0.mk (blk_box hG (.cells #[.int .i64 o, .int .i64 a, .int .i64 b, .int .i64 c] 99)); clear hf hG
  go_enter Tryz.func142, Tryz.ntmps142
  obtain ⟨kx1, kx2⟩ := lay (Below.refl _ _) HKX0.out
  obtain ⟨kf1, kf2⟩ := lay (Below.refl _ _) HKF0.out
  have cZF := pw_cell_below HB0.out ZF.out
  have cZV := pw_cell_below HB0.out ZV.out
  go_wp2_with fail
  clear kx1 kx2 kf1 kf2 cZF cZV
  refine Grow.wp_region_growB (by kernel_rfl) (by kernel_rfl) ?_
  repeat ((first | (refine Grow.lex_do _ (by rfl) (by intro W hj; obtain ⟨kx1, kx2⟩ := lay (Below.refl _ _) (blk_below HKX0.out hj.out); obtain ⟨kf1, kf2⟩ := lay (Below.refl _ _) (blk_below HKF0.out hj.out); have cZF := pw_cell_below (bel_call HB0.out hj.out) ZF.out; have cZV := pw_cell_below (bel_call HB0.out hj.out) ZV.out; go_simp; first | exact Grow.Upon.val hj | (have cc := impl_requests W B0 B1 B2 x.vs.length x.qs.length x.rs.length d0 d1 d2 hx; with_reducible exact Grow.Upon.callB hj cc)) ?_)); refine Grow.lex_norm (fun K hK => ?_); go_simp; refine hK _ ?_; clear hK K)
  refine Grow.lex_nil (fun w1 hj => ?_)
  have hb := hj.out; clear hj
  have HB1 := Aside0.mk (bel_call HB0.out hb); have HKX1 := Aside0.mk (blk_below HKX0.out hb); have HKF1 := Aside0.mk (blk_below HKF0.out hb); clear hb
  go_wp2
  go_ret
  exact ⟨rfl, HB1.out⟩
set_option maxRecDepth 100000 in
set_option maxHeartbeats 4000000 in
theorem do_jz0 (o b c : Int) (rb : Nat) (A : Addr) (cR : Nat) (xs : List Int) (hr : w.cell? ⟨rb, 0, none⟩ = some (.slice (some A) xs.length cR)) (hA : kInt.C w (some A) xs.length xs) (ka : Nat) (hk0 : ka < xs.length) (hz : atI xs ka = 0) : Calls Tryz.prog 143 #[.agg #[.int .i64 o, .int .i64 (ka : Int), .int .i64 b, .int .i64 c], .pointer (some ⟨rb, 0, none⟩)] w fun e w' => e = .returned (.int .i64 (b)) ∧ Below w.heap.size w w' := by
  obtain ⟨ad, e0, z0⟩ := int_at hA hk0; injection e0 with e0; subst e0
  generalize atI xs ka = y0 at *
  have ZR := Aside0.mk hr; have Z0 := Aside0.mk z0
  have hb : (ka : Int) < (xs.length : Int) := by omega
  clear hr z0 hA
  have p0 : (y0 == 0) = true := beq_iff_eq.2 hz; have p1 : decide (y0 = 0) = true := decide_eq_true hz
  clear hz
  have HB0 := Aside0.mk (below_alloc (Below.refl w.heap.size w) (.cells #[.int .i64 o, .int .i64 (ka : Int), .int .i64 b, .int .i64 c] 99))
  have h := al_new w (.cells #[.int .i64 o, .int .i64 (ka : Int), .int .i64 b, .int .i64 c] 99)
  have HKX0 := Aside0.mk h; clear h
  have HZ0 := Aside0.mk (show (w.alloc (.cells #[.int .i64 o, .int .i64 (ka : Int), .int .i64 b, .int .i64 c] 99)).heap.size = w.heap.size + 1 by simp only [al_size])
  go_enter Tryz.func143, Tryz.ntmps143
  obtain ⟨kx1, kx2⟩ := lay (Below.refl _ _) HKX0.out
  have cZR := pw_cell_below HB0.out ZR.out
  have cZ0 := pw_cell_below HB0.out Z0.out
  go_wp2
  go_ret
  exact ⟨rfl, HB0.out⟩
set_option maxRecDepth 100000 in
set_option maxHeartbeats 4000000 in
theorem do_jz1 (o b c : Int) (rb : Nat) (A : Addr) (cR : Nat) (xs : List Int) (hr : w.cell? ⟨rb, 0, none⟩ = some (.slice (some A) xs.length cR)) (hA : kInt.C w (some A) xs.length xs) (ka : Nat) (hk0 : ka < xs.length) (hz : atI xs ka ≠ 0) : Calls Tryz.prog 143 #[.agg #[.int .i64 o, .int .i64 (ka : Int), .int .i64 b, .int .i64 c], .pointer (some ⟨rb, 0, none⟩)] w fun e w' => e = .returned (.int .i64 (-1)) ∧ Below w.heap.size w w' := by
  obtain ⟨ad, e0, z0⟩ := int_at hA hk0; injection e0 with e0; subst e0
  generalize atI xs ka = y0 at *
  have ZR := Aside0.mk hr; have Z0 := Aside0.mk z0
  have hb : (ka : Int) < (xs.length : Int) := by omega
  clear hr z0 hA
  have p0 : (y0 == 0) = false := beq_eq_false_iff_ne.2 hz; have p1 : decide (y0 = 0) = false := decide_eq_false hz
  clear hz
  have HB0 := Aside0.mk (below_alloc (Below.refl w.heap.size w) (.cells #[.int .i64 o, .int .i64 (ka : Int), .int .i64 b, .int .i64 c] 99))
  have h := al_new w (.cells #[.int .i64 o, .int .i64 (ka : Int), .int .i64 b, .int .i64 c] 99)
  have HKX0 := Aside0.mk h; clear h
  have HZ0 := Aside0.mk (show (w.alloc (.cells #[.int .i64 o, .int .i64 (ka : Int), .int .i64 b, .int .i64 c] 99)).heap.size = w.heap.size + 1 by simp only [al_size])
  go_enter Tryz.func143, Tryz.ntmps143
  obtain ⟨kx1, kx2⟩ := lay (Below.refl _ _) HKX0.out
  have cZR := pw_cell_below HB0.out ZR.out
  have cZ0 := pw_cell_below HB0.out Z0.out
  go_wp2
  go_ret
  exact ⟨rfl, HB0.out⟩
set_option maxRecDepth 100000 in
set_option maxHeartbeats 4000000 in
theorem do_jnz0 (o b c : Int) (rb : Nat) (A : Addr) (cR : Nat) (xs : List Int) (hr : w.cell? ⟨rb, 0, none⟩ = some (.slice (some A) xs.length cR)) (hA : kInt.C w (some A) xs.length xs) (ka : Nat) (hk0 : ka < xs.length) (hz : atI xs ka = 0) : Calls Tryz.prog 144 #[.agg #[.int .i64 o, .int .i64 (ka : Int), .int .i64 b, .int .i64 c], .pointer (some ⟨rb, 0, none⟩)] w fun e w' => e = .returned (.int .i64 (-1)) ∧ Below w.heap.size w w' := by
  obtain ⟨ad, e0, z0⟩ := int_at hA hk0; injection e0 with e0; subst e0
  generalize atI xs ka = y0 at *
  have ZR := Aside0.mk hr; have Z0 := Aside0.mk z0
  have hb : (ka : Int) < (xs.length : Int) := by omega
  clear hr z0 hA
  have p0 : (y0 == 0) = true := beq_iff_eq.2 hz; have p1 : decide (y0 = 0) = true := decide_eq_true hz
  clear hz
  have HB0 := Aside0.mk (below_alloc (Below.refl w.heap.size w) (.cells #[.int .i64 o, .int .i64 (ka : Int), .int .i64 b, .int .i64 c] 99))
  have h := al_new w (.cells #[.int .i64 o, .int .i64 (ka : Int), .int .i64 b, .int .i64 c] 99)
  have HKX0 := Aside0.mk h; clear h
  have HZ0 := Aside0.mk (show (w.alloc (.cells #[.int .i64 o, .int .i64 (ka : Int), .int .i64 b, .int .i64 c] 99)).heap.size = w.heap.size + 1 by simp only [al_size])
  go_enter Tryz.func144, Tryz.ntmps144
  obtain ⟨kx1, kx2⟩ := lay (Below.refl _ _) HKX0.out
  have cZR := pw_cell_below HB0.out ZR.out
  have cZ0 := pw_cell_below HB0.out Z0.out
  go_wp2
  go_ret
  exact ⟨rfl, HB0.out⟩
set_option maxRecDepth 100000 in
set_option maxHeartbeats 4000000 in
theorem do_jnz1 (o b c : Int) (rb : Nat) (A : Addr) (cR : Nat) (xs : List Int) (hr : w.cell? ⟨rb, 0, none⟩ = some (.slice (some A) xs.length cR)) (hA : kInt.C w (some A) xs.length xs) (ka : Nat) (hk0 : ka < xs.length) (hz : atI xs ka ≠ 0) : Calls Tryz.prog 144 #[.agg #[.int .i64 o, .int .i64 (ka : Int), .int .i64 b, .int .i64 c], .pointer (some ⟨rb, 0, none⟩)] w fun e w' => e = .returned (.int .i64 (b)) ∧ Below w.heap.size w w' := by
  obtain ⟨ad, e0, z0⟩ := int_at hA hk0; injection e0 with e0; subst e0
  generalize atI xs ka = y0 at *
  have ZR := Aside0.mk hr; have Z0 := Aside0.mk z0
  have hb : (ka : Int) < (xs.length : Int) := by omega
  clear hr z0 hA
  have p0 : (y0 == 0) = false := beq_eq_false_iff_ne.2 hz; have p1 : decide (y0 = 0) = false := decide_eq_false hz
  clear hz
  have HB0 := Aside0.mk (below_alloc (Below.refl w.heap.size w) (.cells #[.int .i64 o, .int .i64 (ka : Int), .int .i64 b, .int .i64 c] 99))
  have h := al_new w (.cells #[.int .i64 o, .int .i64 (ka : Int), .int .i64 b, .int .i64 c] 99)
  have HKX0 := Aside0.mk h; clear h
  have HZ0 := Aside0.mk (show (w.alloc (.cells #[.int .i64 o, .int .i64 (ka : Int), .int .i64 b, .int .i64 c] 99)).heap.size = w.heap.size + 1 by simp only [al_size])
  go_enter Tryz.func144, Tryz.ntmps144
  obtain ⟨kx1, kx2⟩ := lay (Below.refl _ _) HKX0.out
  have cZR := pw_cell_below HB0.out ZR.out
  have cZ0 := pw_cell_below HB0.out Z0.out
  go_wp2
  go_ret
  exact ⟨rfl, HB0.out⟩
set_option maxRecDepth 100000 in
set_option maxHeartbeats 4000000 in
theorem do_jump (o a b c : Int) : Calls Tryz.prog 145 #[.agg #[.int .i64 o, .int .i64 a, .int .i64 b, .int .i64 c]] w fun e w' => e = .returned (.int .i64 b) ∧ Below w.heap.size w w' := by
  have HB0 := Aside0.mk (below_alloc (Below.refl w.heap.size w) (.cells #[.int .i64 o, .int .i64 a, .int .i64 b, .int .i64 c] 99))
  have h := al_new w (.cells #[.int .i64 o, .int .i64 a, .int .i64 b, .int .i64 c] 99)
  have HKX0 := Aside0.mk h; clear h
  have HZ0 := Aside0.mk (show (w.alloc (.cells #[.int .i64 o, .int .i64 a, .int .i64 b, .int .i64 c] 99)).heap.size = w.heap.size + 1 by simp only [al_size])
  go_enter Tryz.func145, Tryz.ntmps145
  go_wp2
  go_ret
  exact ⟨rfl, HB0.out⟩
end
end Go.Proofs.YtlhpbpkefkabgaaGreat.L1
namespace Go.Proofs.YtlhpbpkefkabgaaGreat.L1
open Go.RowKit Go.Proofs.YtlhpbpkefkabgaaGreatW.PrintWords Go.Proofs.YtlhpbpkefkabgaaGreat.B
set_option linter.unusedVariables false
set_option linter.unusedSimpArgs false
attribute [local go_sem] mk_cell mk_frozen
/-- Only blocks of S, and new ones, are written. -/
structure Tch (S : Nat → Prop) (W W' : World) : Prop where
  size : W.heap.size ≤ W'.heap.size
  same : ∀ k, k < W.heap.size → ¬S k → W'.heap[k]? = W.heap[k]?
  below : ∀ w0 : World, (∀ k, S k → w0.heap.size ≤ k) → Below w0.heap.size w0 W → Below w0.heap.size w0 W'
theorem Tch.refl (S : Nat → Prop) (W : World) : Tch S W W := ⟨Nat.le_refl _, fun _ _ _ => rfl, fun _ _ h => h⟩
theorem Tch.trans {S : Nat → Prop} {W W1 W2 : World} (h : Tch S W W1) (h' : Tch S W1 W2) : Tch S W W2 :=
  ⟨Nat.le_trans h.size h'.size, fun k hk hs => (h'.same k (Nat.lt_of_lt_of_le hk h.size) hs).trans (h.same k hk hs), fun w0 h0 hb => h'.below w0 h0 (h.below w0 h0 hb)⟩
theorem Tch.of_below {S : Nat → Prop} {W W1 : World} (h : Below W.heap.size W W1) : Tch S W W1 := ⟨h.size, fun k hk _ => h.block k hk, fun w0 _ hb => bel_call hb h⟩
theorem Tch.mono {S S' : Nat → Prop} {W W1 : World} (h : Tch S W W1) (hs : ∀ k, S k → S' k) : Tch S' W W1 := ⟨h.size, fun k hk hn => h.same k hk fun hk' => hn (hs k hk'), fun w0 h0 hb => h.below w0 (fun k hk => h0 k (hs k hk)) hb⟩
theorem Tch.set {S : Nat → Prop} {W : World} {b o : Nat} {v : Value} (h : S b) : Tch S W (W.setCell ⟨b, o, none⟩ v) :=
  ⟨Nat.le_of_eq (World.size_setCell _ _ _).symm, fun k _ hn => Below.heap_setCell W ⟨b, o, none⟩ v k (fun e => hn (by rw [e]; exact h)), fun w0 h0 hb => bel_set hb (h0 b h) v⟩
theorem Tch.grown {S : Nat → Prop} {W W1 : World} {b : Nat} (hg : W.grownBy W1 (some b)) (h : S b) (hz : W.heap.size ≤ W1.heap.size) : Tch S W W1 :=
  ⟨hz, fun k hk hn => hg.block k hk (fun e => hn (by injection e with e; rw [e]; exact h)), fun w0 h0 hb => pw_below_grown hb (some b) hb.size hg (fun k hk => by cases hk; exact h0 b h)⟩
/-- A result that lies in a block known whole. -/
theorem results_cell {P : Program} {fn : Func} {tmps : Array Value} {w : World} {a : Nat} {ty T : TypeId} {g : Nat} {cs : Array Value} {d : TypeDesc} (hr : fn.results = #[.cell a ty]) (hp : tmps.getD a undef = .pointer (some ⟨g, 0, none⟩)) (hg : w.heap[g]? = some (.cells cs T (0, 0)))
    (hu : P.underlying ty = some d) (hd : (match d with | .struct _ | .array _ _ => true | _ => false) = true) (hi : (P.info? ty).map (·.size) = some cs.size) : (results fn tmps).run P w = .ok (.agg cs) w := by
  have h := run_loadVar_row w g T ty cs (0, 0) d hg hu hd hi
  have hp' : tmps[a]?.getD undef = Value.pointer (some ⟨g, 0, none⟩) := by simpa using hp
  simp [results, hr, hp', asAddr, Sem.run_bind, h]
/-- A whole block is written. -/
theorem wpList_putAll {P : Program} {ops : Array Oper} {rest : List Oper} {o : Oper} {a : Act} {Q : Exit → Act → World → Prop} {W : World} (hN : o.dst = none) (hgd : o.guard = none) (t : TypeId) (p x : Operand) (ho : o.op = .store t p x) {g : Nat} {cs : Array Value} {T : TypeId} (vs : List Value) (haddr : a.eval p = .pointer (some ⟨g, 0, none⟩)) (hx : (a.eval x).cells.toList = vs)
    (ht : (P.info? t).map (·.size) = some vs.length) (h1 : ∀ q ∈ vs, q.oneCell' = true) (hg : W.heap[g]? = some (.cells cs T (0, 0))) (hl : vs.length = cs.size) (h : ∀ w1, w1.heap[g]? = some (.cells vs.toArray T (0, 0)) → Tch (fun k => k = g) W w1 → w1.heap.size = W.heap.size → wpList P ops Q rest a w1) : wpList P ops Q (o :: rest) a W := by
  obtain ⟨cur, h2, h3, h4⟩ := setCells_row vs 0 W cs hg (by omega)
  obtain ⟨s1, s2, s3, s4⟩ := setCells_same g vs 0 W
  have h5 : cur = vs.toArray := by
    apply Array.toList_inj.1
    rw [h4, List.take_zero, List.nil_append, List.drop_of_length_le (by simp; omega), List.append_nil]
  have hgr : W.grownBy (W.setCells g 0 vs) (some g) := ⟨s1, s2, s3, Nat.le_of_eq s4.symm, fun k _ hk => setCells_far vs 0 k (fun e => hk (by rw [e]))⟩
  have hrun : (Instr.storeAt t (.pointer (some ⟨g, 0, none⟩)) (a.eval x)).run P W = .ok () (W.setCells g 0 vs) := run_store_run t _ vs hg hx ht (by omega) h1
  refine wpList_plain hgd fun K hK => ?_
  unfold Oper.wp execOp
  simp only [ho, haddr, Sem.run_bind, Sem.run_pure, Result.andThen_ok, hrun]
  show K (a.put o.dst undef) _
  rw [hN]
  exact hK a _ (h _ (by rw [h2, h5]) (Tch.grown hgr rfl hgr.size) s4)
section
variable (w : World)
set_option maxRecDepth 100000 in
set_option maxHeartbeats 4000000 in
theorem impl_set (i : Nat) (caps : Array Value) (eg : ∀ args w, (callFunc i args).run Tryz.prog w = .ok (.enter i args) w) (w0 : World) (o b c v : Int) (db rb ga cR ka : Nat) (xs : List Int) (hd : w.cell? ⟨db, 0, none⟩ = some (.func (.func i) #[] caps)) (hr : w.cell? ⟨rb, 0, none⟩ = some (.slice (some ⟨ga, 0, none⟩) xs.length cR))
    (hA : kInt.R 2 w w0.heap.size (fun _ => True) (.slice (some ⟨ga, 0, none⟩) xs.length cR) xs) (hB : Below w0.heap.size w0 w) (hga : w0.heap.size ≤ ga) (hk : ka < xs.length) (hv : ∀ W : World, Below w.heap.size w W → Calls Tryz.prog i (#[.agg #[.int .i64 o, .int .i64 (ka : Int), .int .i64 b, .int .i64 c]] ++ caps) W fun e w' => e = .returned (.int .i64 v) ∧ Below W.heap.size W w') :
    Calls Tryz.prog 126 #[.agg #[.int .i64 o, .int .i64 (ka : Int), .int .i64 b, .int .i64 c], .pointer (some ⟨db, 0, none⟩), .pointer (some ⟨rb, 0, none⟩)] w fun e w' => e = .returned (.int .i64 (-1)) ∧ kInt.R 2 w' w0.heap.size (fun _ => True) (.slice (some ⟨ga, 0, none⟩) xs.length cR) (xs.set ka v) ∧ Below w0.heap.size w0 w' ∧ Tch (fun k => k = ga) w w' := by
  have HV := Aside0.mk hv; have HA := Aside0.mk hA; have HD := Aside0.mk hd; have HR := Aside0.mk hr; have HBB := Aside0.mk hB
  have hb : (ka : Int) < (xs.length : Int) := by omega
  have HB0 := Aside0.mk (below_alloc (Below.refl w.heap.size w) (.cells #[.int .i64 o, .int .i64 (ka : Int), .int .i64 b, .int .i64 c] 99))
  have h := al_new w (.cells #[.int .i64 o, .int .i64 (ka : Int), .int .i64 b, .int .i64 c] 99)
  have HKX0 := Aside0.mk h
  clear hv hA hd hr hB h
  go_enter Tryz.func126, Tryz.ntmps126
  go_wp2_with fail
  refine Grow.wp_region_tail 7 (by kernel_rfl) (by kernel_rfl) ?_
  dsimp only [List.take, List.drop]
  repeat ((first | (refine Grow.lexP_do _ (by rfl) (by rfl) (by intro W hj; obtain ⟨kx1, kx2⟩ := lay (Below.refl _ _) (blk_below HKX0.out hj.out); have cd := pw_cell_below (bel_call HB0.out hj.out) HD.out; have cr := pw_cell_below (bel_call HB0.out hj.out) HR.out; go_simp; first | exact Grow.UponB.val | exact Grow.UponB.call (HV.out W (bel_call HB0.out hj.out))) ?_)); refine Grow.lexP_norm (fun K hK => ?_); go_simp; refine hK _ ?_; clear hK K)
  refine Grow.lexP_nil (fun W hj => ?_)
  have HB1 := Aside0.mk (bel_call HB0.out hj.out); clear hj eg
  refine Kd.flat_store kInt rfl rfl rfl 2 _ _ rfl ka v rfl (by simp) rfl (by kernel_rfl) (Kd.R_below HA.out HB1.out) hk (bel_call HBB.out HB1.out) ?_
  intro w3 hr3 hb3 hg3
  have HR3 := Aside0.mk hr3; have HB3 := Aside0.mk hb3; have HG3 := Aside0.mk hg3; clear hr3 hb3 hg3
  go_wp2
  go_ret
  exact ⟨rfl, HR3.out, HB3.out, (Tch.of_below HB1.out).trans (Tch.grown HG3.out rfl HG3.out.size)⟩
set_option maxRecDepth 100000 in
set_option maxHeartbeats 4000000 in
theorem impl_check1 (o b c : Int) (rb fb : Nat) (A : Addr) (cR : Nat) (xs : List Int) (hr : w.cell? ⟨rb, 0, none⟩ = some (.slice (some A) xs.length cR)) (hA : kInt.C w (some A) xs.length xs) (ka : Nat) (hk0 : ka < xs.length) (hz : atI xs ka ≠ 0) : Calls Tryz.prog 146 #[.agg #[.int .i64 o, .int .i64 (ka : Int), .int .i64 b, .int .i64 c], .pointer (some ⟨rb, 0, none⟩), .pointer (some ⟨fb, 0, none⟩)] w fun e w' => e = .returned (.int .i64 (-1)) ∧ Below w.heap.size w w' := by
  obtain ⟨ad, e0, z0⟩ := int_at hA hk0; injection e0 with e0; subst e0
  generalize atI xs ka = y0 at *
  have HB0 := Aside0.mk (below_alloc (Below.refl w.heap.size w) (.cells #[.int .i64 o, .int .i64 (ka : Int), .int .i64 b, .int .i64 c] 99))
  have cR := pw_cell_below HB0.out hr; have c0 := pw_cell_below HB0.out z0
  have hb : (ka : Int) < (xs.length : Int) := by omega
  clear hr z0 hA
  have p0 : (y0 == 0) = false := beq_eq_false_iff_ne.2 hz; have p1 : decide (y0 = 0) = false := decide_eq_false hz
  clear hz
  go_enter Tryz.func146, Tryz.ntmps146
  go_wp2
  go_ret
  exact ⟨rfl, HB0.out⟩
set_option maxRecDepth 100000 in
set_option maxHeartbeats 4000000 in
theorem impl_check0 (o b c : Int) (rb fb g : Nat) (A : Addr) (cR : Nat) (xs : List Int) (hr : w.cell? ⟨rb, 0, none⟩ = some (.slice (some A) xs.length cR)) (hA : kInt.C w (some A) xs.length xs) (ka : Nat) (hk0 : ka < xs.length) (hz : atI xs ka = 0) (hf : w.cell? ⟨fb, 0, none⟩ = some (.pointer (some ⟨g, 0, none⟩))) (FC : Array Value) (hG : w.heap[g]? = some (.cells FC 125 (0, 0))) (hFC : FC.size = 19) :
    Calls Tryz.prog 146 #[.agg #[.int .i64 o, .int .i64 (ka : Int), .int .i64 b, .int .i64 c], .pointer (some ⟨rb, 0, none⟩), .pointer (some ⟨fb, 0, none⟩)] w fun e w' => e = .returned (.int .i64 16384) ∧ w'.heap[g]? = some (.cells (FC.setIfInBounds 18 (.int .i64 b)) 125 (0, 0)) ∧ Tch (fun k => k = g) w w' := by
  obtain ⟨ad, e0, z0⟩ := int_at hA hk0; injection e0 with e0; subst e0
  generalize atI xs ka = y0 at *
  have HB0 := Aside0.mk (below_alloc (Below.refl w.heap.size w) (.cells #[.int .i64 o, .int .i64 (ka : Int), .int .i64 b, .int .i64 c] 99))
  have hG0 := blk_box hG (.cells #[.int .i64 o, .int .i64 (ka : Int), .int .i64 b, .int .i64 c] 99)
  have cR := pw_cell_below HB0.out hr; have c0 := pw_cell_below HB0.out z0; have cf := pw_cell_below HB0.out hf
  have c18 : (w.alloc (.cells #[.int .i64 o, .int .i64 (ka : Int), .int .i64 b, .int .i64 c] 99)).cell? ⟨g, 18, none⟩ = some FC[18] := by rw [blk_cell hG0 18]; exact Array.getElem?_eq_getElem (by omega)
  have g2 := blk_frozen hG0 18
  have HG0 := Aside0.mk hG0
  have hb : (ka : Int) < (xs.length : Int) := by omega
  clear hr z0 hA hf hG hG0
  have p0 : (y0 == 0) = true := beq_iff_eq.2 hz; have p1 : decide (y0 = 0) = true := decide_eq_true hz
  clear hz
  go_enter Tryz.func146, Tryz.ntmps146
  go_wp2
  go_ret
  exact ⟨rfl, blk_set HG0.out 18 (.int .i64 b), (Tch.of_below HB0.out).trans (Tch.set rfl)⟩
end
end Go.Proofs.YtlhpbpkefkabgaaGreat.L1
