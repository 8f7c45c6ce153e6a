/- The value of an instruction, as the reference tells it. A block of code run, as the reference tells it. -/
import Derived.Test.YtlhpbpkefkabgaaGreatQS14
namespace Go.Proofs.YtlhpbpkefkabgaaGreat.L1
open Go.RowKit Go.Proofs.YtlhpbpkefkabgaaGreatW.PrintWords Go.Proofs.YtlhpbpkefkabgaaGreat.B
set_option linter.unusedVariables false
set_option linter.unusedSimpArgs false
attribute [local go_sem] mk_cell mk_frozen
def memV (E : Env) (m : Mem) (A0 : Option Addr) (c0 : Nat) (A1 : Option Addr) (c1 : Nat) : Value := .agg #[.slice A0 m.regs.length c0, .slice A1 m.slots.length c1, .int .i64 E.tags, .int .i64 E.skills, .int .i64 E.q, .int .i64 E.reqs, .int .i64 m.rule]
def insVal (x : Ins) : Value := .agg #[.int .i64 x.op, .int .i64 x.a, .int .i64 x.b, .int .i64 x.c]
theorem int_at {w : World} {A : Option Addr} {xs : List Int} (h : kInt.C w A xs.length xs) {k : Nat} (hk : k < xs.length) : ∃ ad : Addr, A = some ad ∧ w.cell? (ad.add k) = some (.int .i64 (atI xs k)) := by
  obtain ⟨ad, e, t0, _⟩ := Kd.flat_cells (d := kInt) rfl h 0 k hk
  have := t0 _ rfl
  rw [Nat.mul_one] at this
  exact ⟨ad, e, by unfold atI; rw [Int.toNat_natCast]; exact this⟩
section
variable (w : World)
set_option maxRecDepth 100000 in
set_option maxHeartbeats 2000000 in
theorem spec_insVal1 (a b c : Int) (E : Env) (m : Mem) (A0 : Option Addr) (c0 : Nat) (A1 : Option Addr) (c1 : Nat) (h0 : kInt.C w A0 m.regs.length m.regs) (h1 : kInt.C w A1 m.slots.length m.slots) : Calls Tryz.prog 60 #[insVal ⟨1, a, b, c⟩, memV E m A0 c0 A1 c1] w fun e w' => e = .returned (.int .i64 (insV E m ⟨1, a, b, c⟩)) ∧ Below w.heap.size w w' := by
  have HL := sA (show insV E m ⟨1, a, b, c⟩ = b by unfold insV; simp)
  clear h0 h1
  unfold insVal memV
  go_enter Tryz.func60, Tryz.ntmps60
  go_wp2
  go_ret
  exact ⟨by rw [HL.out]; rfl, bA (bA (Below.refl _ _) _) _⟩
set_option maxRecDepth 100000 in
set_option maxHeartbeats 2000000 in
theorem spec_insVal2 (a c : Int) (E : Env) (m : Mem) (A0 : Option Addr) (c0 : Nat) (A1 : Option Addr) (c1 : Nat) (h0 : kInt.C w A0 m.regs.length m.regs) (h1 : kInt.C w A1 m.slots.length m.slots) (kb : Nat) (hk0 : kb < m.regs.length) : Calls Tryz.prog 60 #[insVal ⟨2, a, (kb : Int), c⟩, memV E m A0 c0 A1 c1] w fun e w' => e = .returned (.int .i64 (insV E m ⟨2, a, (kb : Int), c⟩)) ∧ Below w.heap.size w w' := by
  have HL := sA (show insV E m ⟨2, a, (kb : Int), c⟩ = atI m.regs kb by unfold insV; simp)
  obtain ⟨ad, rfl, z0⟩ := int_at h0 hk0
  generalize hy0 : atI m.regs kb = y0 at z0
  have HY0 := sA hy0; clear hy0
  have HB := sA (bA (bA (Below.refl w.heap.size w) (.cells #[.int .i64 2, .int .i64 a, .int .i64 (kb : Int), .int .i64 c] 99)) (.cells #[.slice (some ad) m.regs.length c0, .slice A1 m.slots.length c1, .int .i64 E.tags, .int .i64 E.skills, .int .i64 E.q, .int .i64 E.reqs, .int .i64 m.rule] 73))
  replace z0 := pC HB.out z0
  clear h0 h1
  rw [HY0.out] at HL
  have hb : (kb : Int) < (m.regs.length : Int) := by omega
  unfold insVal memV
  go_enter Tryz.func60, Tryz.ntmps60
  go_wp2
  go_ret
  exact ⟨by rw [HL.out]; rfl, bA (bA (Below.refl _ _) _) _⟩
set_option maxRecDepth 100000 in
set_option maxHeartbeats 2000000 in
theorem spec_insVal3 (a c : Int) (E : Env) (m : Mem) (A0 : Option Addr) (c0 : Nat) (A1 : Option Addr) (c1 : Nat) (h0 : kInt.C w A0 m.regs.length m.regs) (h1 : kInt.C w A1 m.slots.length m.slots) (kb : Nat) (hk0 : kb < m.regs.length) (hc : -1000000000 ≤ atI m.regs kb ∧ atI m.regs kb ≤ 1000000000) : Calls Tryz.prog 60 #[insVal ⟨3, a, (kb : Int), c⟩, memV E m A0 c0 A1 c1] w fun e w' => e = .returned (.int .i64 (insV E m ⟨3, a, (kb : Int), c⟩)) ∧ Below w.heap.size w w' := by
  have HL := sA (show insV E m ⟨3, a, (kb : Int), c⟩ = -atI m.regs kb by unfold insV; simp)
  have q0 : IntKind.i64.wrap (-atI m.regs kb) = -atI m.regs kb := IntWalk.i64_in _ (by omega)
  obtain ⟨ad, rfl, z0⟩ := int_at h0 hk0
  generalize hy0 : atI m.regs kb = y0 at z0
  have HY0 := sA hy0; clear hy0
  have HB := sA (bA (bA (Below.refl w.heap.size w) (.cells #[.int .i64 3, .int .i64 a, .int .i64 (kb : Int), .int .i64 c] 99)) (.cells #[.slice (some ad) m.regs.length c0, .slice A1 m.slots.length c1, .int .i64 E.tags, .int .i64 E.skills, .int .i64 E.q, .int .i64 E.reqs, .int .i64 m.rule] 73))
  replace z0 := pC HB.out z0
  clear h0 h1
  rw [HY0.out] at HL q0 hc
  have hb : (kb : Int) < (m.regs.length : Int) := by omega
  unfold insVal memV
  go_enter Tryz.func60, Tryz.ntmps60
  go_wp2
  go_ret
  exact ⟨by rw [HL.out]; rfl, bA (bA (Below.refl _ _) _) _⟩
set_option maxRecDepth 100000 in
set_option maxHeartbeats 2000000 in
theorem spec_insVal4 (a c : Int) (E : Env) (m : Mem) (A0 : Option Addr) (c0 : Nat) (A1 : Option Addr) (c1 : Nat) (h0 : kInt.C w A0 m.regs.length m.regs) (h1 : kInt.C w A1 m.slots.length m.slots) (kb : Nat) (hk0 : kb < m.regs.length) : Calls Tryz.prog 60 #[insVal ⟨4, a, (kb : Int), c⟩, memV E m A0 c0 A1 c1] w fun e w' => e = .returned (.int .i64 (insV E m ⟨4, a, (kb : Int), c⟩)) ∧ Below w.heap.size w w' := by
  have HL := sA (show insV E m ⟨4, a, (kb : Int), c⟩ = bitI (atI m.regs kb == 0) by unfold insV; simp)
  obtain ⟨ad, rfl, z0⟩ := int_at h0 hk0
  generalize hy0 : atI m.regs kb = y0 at z0
  have HY0 := sA hy0; clear hy0
  have HB := sA (bA (bA (Below.refl w.heap.size w) (.cells #[.int .i64 4, .int .i64 a, .int .i64 (kb : Int), .int .i64 c] 99)) (.cells #[.slice (some ad) m.regs.length c0, .slice A1 m.slots.length c1, .int .i64 E.tags, .int .i64 E.skills, .int .i64 E.q, .int .i64 E.reqs, .int .i64 m.rule] 73))
  replace z0 := pC HB.out z0
  clear h0 h1
  rw [HY0.out] at HL
  have hb : (kb : Int) < (m.regs.length : Int) := by omega
  unfold insVal memV
  go_enter Tryz.func60, Tryz.ntmps60
  go_wp2_with (go_at_call 55; refine (spec_bit _ _).mono ?_; rintro e w' ⟨rfl, rfl⟩)
  go_ret
  exact ⟨by rw [HL.out]; rfl, bA (bA (Below.refl _ _) _) _⟩
set_option maxRecDepth 100000 in
set_option maxHeartbeats 2000000 in
theorem spec_insVal13n (a b c : Int) (E : Env) (m : Mem) (A0 : Option Addr) (c0 : Nat) (A1 : Option Addr) (c1 : Nat) (h0 : kInt.C w A0 m.regs.length m.regs) (h1 : kInt.C w A1 m.slots.length m.slots) (t0 : 0 ≤ b) (t1 : b ≤ 15) (g0 : 0 ≤ E.tags) (g1 : E.tags ≤ 65535) (hq : E.q < 0) : Calls Tryz.prog 60 #[insVal ⟨13, a, b, c⟩, memV E m A0 c0 A1 c1] w fun e w' => e = .returned (.int .i64 (insV E m ⟨13, a, b, c⟩)) ∧ Below w.heap.size w w' := by
  have HG := sA (And.intro g0 g1); have HT := sA (And.intro t0 t1); clear g0 g1 t0 t1 h0 h1
  have p0 : decide (0 ≤ E.q) = false := decide_eq_false (by omega)
  have HL := sA (show insV E m ⟨13, a, b, c⟩ = bitI false by unfold insV; simp [p0])
  clear hq
  unfold insVal memV
  go_enter Tryz.func60, Tryz.ntmps60
  go_wp2_with (first | (go_at_call 55; refine (spec_bit _ _).mono ?_; rintro e w' ⟨rfl, rfl⟩) | (go_at_call 94; refine (spec_has _ _ _ HG.out.1 HG.out.2 HT.out.1 HT.out.2).mono ?_; rintro e w' ⟨rfl, rfl⟩))
  go_ret
  exact ⟨by rw [HL.out]; rfl, bA (bA (Below.refl _ _) _) _⟩
set_option maxRecDepth 100000 in
set_option maxHeartbeats 2000000 in
theorem spec_insVal13y (a b c : Int) (E : Env) (m : Mem) (A0 : Option Addr) (c0 : Nat) (A1 : Option Addr) (c1 : Nat) (h0 : kInt.C w A0 m.regs.length m.regs) (h1 : kInt.C w A1 m.slots.length m.slots) (t0 : 0 ≤ b) (t1 : b ≤ 15) (g0 : 0 ≤ E.tags) (g1 : E.tags ≤ 65535) (hq : 0 ≤ E.q) : Calls Tryz.prog 60 #[insVal ⟨13, a, b, c⟩, memV E m A0 c0 A1 c1] w fun e w' => e = .returned (.int .i64 (insV E m ⟨13, a, b, c⟩)) ∧ Below w.heap.size w w' := by
  have HG := sA (And.intro g0 g1); have HT := sA (And.intro t0 t1); clear g0 g1 t0 t1 h0 h1
  have p0 : decide (0 ≤ E.q) = true := decide_eq_true (by omega)
  have HL := sA (show insV E m ⟨13, a, b, c⟩ = bitI (tagOf E.tags b) by unfold insV; simp [p0])
  clear hq
  unfold insVal memV
  go_enter Tryz.func60, Tryz.ntmps60
  go_wp2_with (first | (go_at_call 55; refine (spec_bit _ _).mono ?_; rintro e w' ⟨rfl, rfl⟩) | (go_at_call 94; refine (spec_has _ _ _ HG.out.1 HG.out.2 HT.out.1 HT.out.2).mono ?_; rintro e w' ⟨rfl, rfl⟩))
  go_ret
  exact ⟨by rw [HL.out]; rfl, bA (bA (Below.refl _ _) _) _⟩
set_option maxRecDepth 100000 in
set_option maxHeartbeats 2000000 in
theorem spec_insVal14 (a b c : Int) (E : Env) (m : Mem) (A0 : Option Addr) (c0 : Nat) (A1 : Option Addr) (c1 : Nat) (h0 : kInt.C w A0 m.regs.length m.regs) (h1 : kInt.C w A1 m.slots.length m.slots) (t0 : 0 ≤ b) (t1 : b ≤ 15) (g0 : 0 ≤ E.skills) (g1 : E.skills ≤ 65535) : Calls Tryz.prog 60 #[insVal ⟨14, a, b, c⟩, memV E m A0 c0 A1 c1] w fun e w' => e = .returned (.int .i64 (insV E m ⟨14, a, b, c⟩)) ∧ Below w.heap.size w w' := by
  have HG := sA (And.intro g0 g1); have HT := sA (And.intro t0 t1); clear g0 g1 t0 t1 h0 h1
  have HL := sA (show insV E m ⟨14, a, b, c⟩ = bitI (tagOf E.skills b) by unfold insV; simp)
  unfold insVal memV
  go_enter Tryz.func60, Tryz.ntmps60
  go_wp2_with (first | (go_at_call 55; refine (spec_bit _ _).mono ?_; rintro e w' ⟨rfl, rfl⟩) | (go_at_call 94; refine (spec_has _ _ _ HG.out.1 HG.out.2 HT.out.1 HT.out.2).mono ?_; rintro e w' ⟨rfl, rfl⟩))
  go_ret
  exact ⟨by rw [HL.out]; rfl, bA (bA (Below.refl _ _) _) _⟩
set_option maxRecDepth 100000 in
set_option maxHeartbeats 2000000 in
theorem spec_insVal20n (a b c : Int) (E : Env) (m : Mem) (A0 : Option Addr) (c0 : Nat) (A1 : Option Addr) (c1 : Nat) (h0 : kInt.C w A0 m.regs.length m.regs) (h1 : kInt.C w A1 m.slots.length m.slots) (hq : E.q < 0) : Calls Tryz.prog 60 #[insVal ⟨20, a, b, c⟩, memV E m A0 c0 A1 c1] w fun e w' => e = .returned (.int .i64 (insV E m ⟨20, a, b, c⟩)) ∧ Below w.heap.size w w' := by
  have p0 : decide (E.q < 0) = true := decide_eq_true hq
  have HL := sA (show insV E m ⟨20, a, b, c⟩ = 0 by unfold insV; simp [hq])
  clear hq h0 h1
  unfold insVal memV
  go_enter Tryz.func60, Tryz.ntmps60
  go_wp2
  go_ret
  exact ⟨by rw [HL.out]; rfl, bA (bA (Below.refl _ _) _) _⟩
set_option maxRecDepth 100000 in
set_option maxHeartbeats 2000000 in
theorem spec_insVal20y (a b c : Int) (E : Env) (m : Mem) (A0 : Option Addr) (c0 : Nat) (A1 : Option Addr) (c1 : Nat) (h0 : kInt.C w A0 m.regs.length m.regs) (h1 : kInt.C w A1 m.slots.length m.slots) (ks : Nat) (hks : b * E.reqs + E.q = ks) (hk0 : ks < m.slots.length) (hs : m.slots.length ≤ 2000000) (hbq : 0 ≤ b * E.reqs) (hq : 0 ≤ E.q) : Calls Tryz.prog 60 #[insVal ⟨20, a, b, c⟩, memV E m A0 c0 A1 c1] w fun e w' => e = .returned (.int .i64 (insV E m ⟨20, a, b, c⟩)) ∧ Below w.heap.size w w' := by
  have p0 : decide (E.q < 0) = false := decide_eq_false (by omega)
  have HL := sA (show insV E m ⟨20, a, b, c⟩ = atI m.slots ks by unfold insV; simp; rw [if_neg (by omega), hks])
  have q0 : IntKind.i64.wrap (b * E.reqs) = b * E.reqs := IntWalk.i64_in _ (by omega)
  have q1 : IntKind.i64.wrap (b * E.reqs + E.q) = (ks : Int) := by rw [hks]; exact IntWalk.i64_in _ (by omega)
  obtain ⟨ad, rfl, z0⟩ := int_at h1 hk0
  generalize hy0 : atI m.slots ks = y0 at z0
  have HY0 := sA hy0; clear hy0
  have HB := sA (bA (bA (Below.refl w.heap.size w) (.cells #[.int .i64 20, .int .i64 a, .int .i64 b, .int .i64 c] 99)) (.cells #[.slice A0 m.regs.length c0, .slice (some ad) m.slots.length c1, .int .i64 E.tags, .int .i64 E.skills, .int .i64 E.q, .int .i64 E.reqs, .int .i64 m.rule] 73))
  replace z0 := pC HB.out z0
  clear h0 h1
  clear hks hbq hq
  rw [HY0.out] at HL
  have hb : (ks : Int) < (m.slots.length : Int) := by omega
  unfold insVal memV
  go_enter Tryz.func60, Tryz.ntmps60
  go_wp2
  go_ret
  exact ⟨by rw [HL.out]; rfl, bA (bA (Below.refl _ _) _) _⟩
set_option maxRecDepth 100000 in
set_option maxHeartbeats 2000000 in
theorem spec_insVal12 (a : Int) (E : Env) (m : Mem) (A0 : Option Addr) (c0 : Nat) (A1 : Option Addr) (c1 : Nat) (h0 : kInt.C w A0 m.regs.length m.regs) (h1 : kInt.C w A1 m.slots.length m.slots) (kb : Nat) (kc : Nat) (hk0 : kb < m.regs.length) (hk1 : kc < m.regs.length) : Calls Tryz.prog 60 #[insVal ⟨12, a, (kb : Int), (kc : Int)⟩, memV E m A0 c0 A1 c1] w fun e w' => e = .returned (.int .i64 (insV E m ⟨12, a, (kb : Int), (kc : Int)⟩)) ∧ Below w.heap.size w w' := by
  have HL := sA (show insV E m ⟨12, a, (kb : Int), (kc : Int)⟩ = maxI (atI m.regs kb) (atI m.regs kc) by unfold insV; simp)
  obtain ⟨ad, e0, z0⟩ := int_at h0 hk0; subst e0
  obtain ⟨ad', e1, z1⟩ := int_at h0 hk1; injection e1 with e1; subst e1
  generalize hy0 : atI m.regs kb = y0 at *
  generalize hy1 : atI m.regs kc = y1 at *
  have HY0 := sA hy0; have HY1 := sA hy1; clear hy0 hy1
  have hb : (kb : Int) < (m.regs.length : Int) := by omega
  have hc : (kc : Int) < (m.regs.length : Int) := by omega
  clear h0 h1
  have hX := blk_box (al_new w (.cells #[.int .i64 12, .int .i64 a, .int .i64 (kb : Int), .int .i64 (kc : Int)] 99)) (.cells #[.slice (some ad) m.regs.length c0, .slice A1 m.slots.length c1, .int .i64 E.tags, .int .i64 E.skills, .int .i64 E.q, .int .i64 E.reqs, .int .i64 m.rule] 73)
  have hM := al_new (w.alloc (.cells #[.int .i64 12, .int .i64 a, .int .i64 (kb : Int), .int .i64 (kc : Int)] 99)) (.cells #[.slice (some ad) m.regs.length c0, .slice A1 m.slots.length c1, .int .i64 E.tags, .int .i64 E.skills, .int .i64 E.q, .int .i64 E.reqs, .int .i64 m.rule] 73)
  have x0 := blk_cell hX 0; have x1 := blk_cell hX 2; have x2 := blk_cell hX 3; have m0 := blk_cell hM 0
  simp only [al_size, List.getElem?_toArray, List.getElem?_cons_zero, List.getElem?_cons_succ] at x0 x1 x2 m0
  have HB := sA (bA (bA (Below.refl w.heap.size w) (.cells #[.int .i64 12, .int .i64 a, .int .i64 (kb : Int), .int .i64 (kc : Int)] 99)) (.cells #[.slice (some ad) m.regs.length c0, .slice A1 m.slots.length c1, .int .i64 E.tags, .int .i64 E.skills, .int .i64 E.q, .int .i64 E.reqs, .int .i64 m.rule] 73))
  replace z0 := pC HB.out z0; replace z1 := pC HB.out z1
  clear hX hM
  unfold insVal memV
  go_enter Tryz.func60, Tryz.ntmps60
  go_wp2_with fail
  refine Grow.wp_region_growB (by kernel_rfl) (by kernel_rfl) ?_
  repeat ((first | (refine Grow.lex_skip (by rfl) ?_) | (refine Grow.lex_do _ (by rfl) (by intro W hj; have t0 := pC hj.out x0; have t1 := pC hj.out x1; have t2 := pC hj.out x2; have t3 := pC hj.out m0; have t4 := pC hj.out z0; have t5 := pC hj.out z1; go_simp; first | exact Grow.Upon.val hj | with_reducible exact Grow.Upon.callB hj ((spec_max W y0 y1).mono fun e w' h => ⟨h.1, h.2 ▸ Below.refl _ _⟩)) ?_)); refine Grow.lex_norm (fun K hK => ?_); go_simp; refine hK _ ?_; clear hK K)
  refine Grow.lex_nil (fun W hj => ?_)
  have HB1 := sA (bC HB.out hj.out); clear hj z0 z1 x0 x1 x2 m0
  go_wp2
  go_ret
  exact ⟨by rw [HL.out]; rfl, HB1.out⟩
set_option maxRecDepth 100000 in
set_option maxHeartbeats 2000000 in
theorem spec_insVal11 (a : Int) (E : Env) (m : Mem) (A0 : Option Addr) (c0 : Nat) (A1 : Option Addr) (c1 : Nat) (h0 : kInt.C w A0 m.regs.length m.regs) (h1 : kInt.C w A1 m.slots.length m.slots) (kb : Nat) (kc : Nat) (hk0 : kb < m.regs.length) (hk1 : kc < m.regs.length) (hr : Cap m.regs) : Calls Tryz.prog 60 #[insVal ⟨11, a, (kb : Int), (kc : Int)⟩, memV E m A0 c0 A1 c1] w fun e w' => e = .returned (.int .i64 (insV E m ⟨11, a, (kb : Int), (kc : Int)⟩)) ∧ Below w.heap.size w w' := by
  have HL := sA (show insV E m ⟨11, a, (kb : Int), (kc : Int)⟩ = -maxI (-atI m.regs kb) (-atI m.regs kc) by unfold insV; simp)
  have hb0 := hr.at kb; have hb1 := hr.at kc; clear hr
  have q0 : IntKind.i64.wrap (-atI m.regs kb) = -atI m.regs kb := IntWalk.i64_in _ (by omega)
  have q1 : IntKind.i64.wrap (-atI m.regs kc) = -atI m.regs kc := IntWalk.i64_in _ (by omega)
  have q2 : IntKind.i64.wrap (-maxI (-atI m.regs kb) (-atI m.regs kc)) = -maxI (-atI m.regs kb) (-atI m.regs kc) := IntWalk.i64_in _ (by have := maxI_bd (a := -atI m.regs kb) (b := -atI m.regs kc) (by omega) (by omega); omega)
  obtain ⟨ad, e0, z0⟩ := int_at h0 hk0; subst e0
  obtain ⟨ad', e1, z1⟩ := int_at h0 hk1; injection e1 with e1; subst e1
  generalize hy0 : atI m.regs kb = y0 at *
  generalize hy1 : atI m.regs kc = y1 at *
  have HY0 := sA hy0; have HY1 := sA hy1; clear hy0 hy1
  have hb : (kb : Int) < (m.regs.length : Int) := by omega
  have hc : (kc : Int) < (m.regs.length : Int) := by omega
  clear h0 h1
  have hX := blk_box (al_new w (.cells #[.int .i64 11, .int .i64 a, .int .i64 (kb : Int), .int .i64 (kc : Int)] 99)) (.cells #[.slice (some ad) m.regs.length c0, .slice A1 m.slots.length c1, .int .i64 E.tags, .int .i64 E.skills, .int .i64 E.q, .int .i64 E.reqs, .int .i64 m.rule] 73)
  have hM := al_new (w.alloc (.cells #[.int .i64 11, .int .i64 a, .int .i64 (kb : Int), .int .i64 (kc : Int)] 99)) (.cells #[.slice (some ad) m.regs.length c0, .slice A1 m.slots.length c1, .int .i64 E.tags, .int .i64 E.skills, .int .i64 E.q, .int .i64 E.reqs, .int .i64 m.rule] 73)
  have x0 := blk_cell hX 0; have x1 := blk_cell hX 2; have x2 := blk_cell hX 3; have m0 := blk_cell hM 0
  simp only [al_size, List.getElem?_toArray, List.getElem?_cons_zero, List.getElem?_cons_succ] at x0 x1 x2 m0
  have HB := sA (bA (bA (Below.refl w.heap.size w) (.cells #[.int .i64 11, .int .i64 a, .int .i64 (kb : Int), .int .i64 (kc : Int)] 99)) (.cells #[.slice (some ad) m.regs.length c0, .slice A1 m.slots.length c1, .int .i64 E.tags, .int .i64 E.skills, .int .i64 E.q, .int .i64 E.reqs, .int .i64 m.rule] 73))
  replace z0 := pC HB.out z0; replace z1 := pC HB.out z1
  clear hX hM
  unfold insVal memV
  go_enter Tryz.func60, Tryz.ntmps60
  go_wp2_with fail
  refine Grow.wp_region_growB (by kernel_rfl) (by kernel_rfl) ?_
  repeat ((first | (refine Grow.lex_skip (by rfl) ?_) | (refine Grow.lex_do _ (by rfl) (by intro W hj; have t0 := pC hj.out x0; have t1 := pC hj.out x1; have t2 := pC hj.out x2; have t3 := pC hj.out m0; have t4 := pC hj.out z0; have t5 := pC hj.out z1; go_simp; first | exact Grow.Upon.val hj | with_reducible exact Grow.Upon.callB hj ((spec_max W (-y0) (-y1)).mono fun e w' h => ⟨h.1, h.2 ▸ Below.refl _ _⟩)) ?_)); refine Grow.lex_norm (fun K hK => ?_); go_simp; refine hK _ ?_; clear hK K)
  refine Grow.lex_nil (fun W hj => ?_)
  have HB1 := sA (bC HB.out hj.out); clear hj z0 z1 x0 x1 x2 m0
  go_wp2
  go_ret
  exact ⟨by rw [HL.out]; rfl, HB1.out⟩
set_option maxRecDepth 100000 in
set_option maxHeartbeats 2000000 in
theorem spec_insValB (a : Int) (E : Env) (m : Mem) (A0 : Option Addr) (c0 : Nat) (A1 : Option Addr) (c1 : Nat) (h0 : kInt.C w A0 m.regs.length m.regs) (h1 : kInt.C w A1 m.slots.length m.slots) (kb : Nat) (kc : Nat) (o : Int) (hk0 : kb < m.regs.length) (hk1 : kc < m.regs.length) (hr : Cap m.regs) (ho : 5 ≤ o ∧ o ≤ 10) : Calls Tryz.prog 60 #[insVal ⟨o, a, (kb : Int), (kc : Int)⟩, memV E m A0 c0 A1 c1] w fun e w' => e = .returned (.int .i64 (insV E m ⟨o, a, (kb : Int), (kc : Int)⟩)) ∧ Below w.heap.size w w' := by
  have HL := sA (show insV E m ⟨o, a, (kb : Int), (kc : Int)⟩ = binV (o - 5) (atI m.regs kb) (atI m.regs kc) by unfold insV; simp only; rw [if_neg (by omega), if_neg (by omega), if_neg (by omega), if_neg (by omega), if_neg (by omega), if_neg (by omega), if_neg (by omega), if_neg (by omega), if_neg (by omega)])
  have HC := sA (And.intro (hr.at kb) (hr.at kc)); clear hr
  have q0 : IntKind.i64.wrap (o - 5) = o - 5 := IntWalk.i64_in _ (by omega)
  have d1 : (o == 1) = false := beq_eq_false_iff_ne.2 (by omega); have d2 : (o == 2) = false := beq_eq_false_iff_ne.2 (by omega); have d3 : (o == 3) = false := beq_eq_false_iff_ne.2 (by omega); have d4 : (o == 4) = false := beq_eq_false_iff_ne.2 (by omega); have d13 : (o == 13) = false := beq_eq_false_iff_ne.2 (by omega); have d14 : (o == 14) = false := beq_eq_false_iff_ne.2 (by omega); have d20 : (o == 20) = false := beq_eq_false_iff_ne.2 (by omega); have d12 : (o == 12) = false := beq_eq_false_iff_ne.2 (by omega); have d11 : (o == 11) = false := beq_eq_false_iff_ne.2 (by omega)
  have g1 : decide (o = 1) = false := decide_eq_false (by omega); have g2 : decide (o = 2) = false := decide_eq_false (by omega); have g3 : decide (o = 3) = false := decide_eq_false (by omega); have g4 : decide (o = 4) = false := decide_eq_false (by omega); have g13 : decide (o = 13) = false := decide_eq_false (by omega); have g14 : decide (o = 14) = false := decide_eq_false (by omega); have g20 : decide (o = 20) = false := decide_eq_false (by omega); have g12 : decide (o = 12) = false := decide_eq_false (by omega); have g11 : decide (o = 11) = false := decide_eq_false (by omega)
  clear ho
  obtain ⟨ad, e0, z0⟩ := int_at h0 hk0; subst e0
  obtain ⟨ad', e1, z1⟩ := int_at h0 hk1; injection e1 with e1; subst e1
  generalize hy0 : atI m.regs kb = y0 at *
  generalize hy1 : atI m.regs kc = y1 at *
  have HY0 := sA hy0; have HY1 := sA hy1; clear hy0 hy1
  have hb : (kb : Int) < (m.regs.length : Int) := by omega
  have hc : (kc : Int) < (m.regs.length : Int) := by omega
  clear h0 h1
  have hX := blk_box (al_new w (.cells #[.int .i64 o, .int .i64 a, .int .i64 (kb : Int), .int .i64 (kc : Int)] 99)) (.cells #[.slice (some ad) m.regs.length c0, .slice A1 m.slots.length c1, .int .i64 E.tags, .int .i64 E.skills, .int .i64 E.q, .int .i64 E.reqs, .int .i64 m.rule] 73)
  have hM := al_new (w.alloc (.cells #[.int .i64 o, .int .i64 a, .int .i64 (kb : Int), .int .i64 (kc : Int)] 99)) (.cells #[.slice (some ad) m.regs.length c0, .slice A1 m.slots.length c1, .int .i64 E.tags, .int .i64 E.skills, .int .i64 E.q, .int .i64 E.reqs, .int .i64 m.rule] 73)
  have x0 := blk_cell hX 0; have x1 := blk_cell hX 2; have x2 := blk_cell hX 3; have m0 := blk_cell hM 0
  simp only [al_size, List.getElem?_toArray, List.getElem?_cons_zero, List.getElem?_cons_succ] at x0 x1 x2 m0
  have HB := sA (bA (bA (Below.refl w.heap.size w) (.cells #[.int .i64 o, .int .i64 a, .int .i64 (kb : Int), .int .i64 (kc : Int)] 99)) (.cells #[.slice (some ad) m.regs.length c0, .slice A1 m.slots.length c1, .int .i64 E.tags, .int .i64 E.skills, .int .i64 E.q, .int .i64 E.reqs, .int .i64 m.rule] 73))
  replace z0 := pC HB.out z0; replace z1 := pC HB.out z1
  clear hX hM
  unfold insVal memV
  go_enter Tryz.func60, Tryz.ntmps60
  go_wp2_with fail
  refine Grow.wp_region_growB (by kernel_rfl) (by kernel_rfl) ?_
  repeat ((first | (refine Grow.lex_skip (by rfl) ?_) | (refine Grow.lex_do _ (by rfl) (by intro W hj; have t0 := pC hj.out x0; have t1 := pC hj.out x1; have t2 := pC hj.out x2; have t3 := pC hj.out m0; have t4 := pC hj.out z0; have t5 := pC hj.out z1; go_simp; first | exact Grow.Upon.val hj | with_reducible exact Grow.Upon.callB hj ((spec_binVal W (o - 5) y0 y1 HC.out.1 HC.out.2).mono fun e w' h => ⟨h.1, h.2 ▸ Below.refl _ _⟩)) ?_)); refine Grow.lex_norm (fun K hK => ?_); go_simp; refine hK _ ?_; clear hK K)
  refine Grow.lex_nil (fun W hj => ?_)
  have HB1 := sA (bC HB.out hj.out); clear hj z0 z1 x0 x1 x2 m0
  go_wp2
  go_ret
  exact ⟨by rw [HL.out]; rfl, HB1.out⟩
end
end Go.Proofs.YtlhpbpkefkabgaaGreat.L1
namespace Go.Proofs.YtlhpbpkefkabgaaGreat.L1
open Go.RowKit Go.Proofs.YtlhpbpkefkabgaaGreatW.PrintWords Go.Proofs.YtlhpbpkefkabgaaGreat.B
set_option linter.unusedVariables false
set_option linter.unusedSimpArgs false
attribute [local go_sem] mk_cell mk_frozen
theorem mul_bd' {a b A B : Int} (h0 : 0 ≤ a) (h1 : a ≤ A) (h2 : 0 ≤ b) (h3 : b ≤ B) : 0 ≤ a * b ∧ a * b ≤ A * B := ⟨Int.mul_nonneg h0 h2, Int.mul_le_mul h1 h3 h2 (by omega)⟩
/-- The cell of a slot: within the slots. -/
theorem slot_in {b slots reqs q : Int} (hb0 : 0 ≤ b) (hb1 : b ≤ slots - 1) (hs : slots ≤ 100) (hq0 : 0 ≤ q) (hq1 : q < reqs) (hr : reqs ≤ 16384) : 0 ≤ b * reqs ∧ b * reqs ≤ 1638400 ∧ b * reqs + q < slots * reqs := by
  obtain ⟨h1, h2⟩ := mul_bd' (A := 100) (B := 16384) hb0 (by omega) (show 0 ≤ reqs by omega) hr
  refine ⟨h1, h2, ?_⟩
  have h3 : (b + 1) * reqs ≤ slots * reqs := Int.mul_le_mul_of_nonneg_right (by omega) (by omega)
  rw [Int.add_mul, Int.one_mul] at h3
  omega
section
variable (w : World)
theorem spec_insVal (x : Ins) (E : Env) (m : Mem) (A0 : Option Addr) (c0 : Nat) (A1 : Option Addr) (c1 : Nat) (h0 : kInt.C w A0 m.regs.length m.regs) (h1 : kInt.C w A1 m.slots.length m.slots) {regs slots : Int} {k n : Nat} (hm : Mok E regs slots m) (hs : slots ≤ 100) (hn : (m.slots.length : Int) ≤ 1638400) (hx : insOk x.op x.a x.b x.c regs slots k n = true)
    (h15 : x.op ≠ 15) (h16 : x.op ≠ 16) (h17 : x.op ≠ 17) (h18 : x.op ≠ 18) (h19 : x.op ≠ 19) : Calls Tryz.prog 60 #[insVal x, memV E m A0 c0 A1 c1] w fun e w' => e = .returned (.int .i64 (insV E m x)) ∧ Below w.heap.size w w' := by
  obtain ⟨o, a, b, c⟩ := x
  dsimp only at *
  have hl := hm.rl
  unfold insOk at hx
  split at hx
  · rename_i h
    simp only [Bool.and_eq_true, inB_iff] at hx
    obtain ⟨⟨_, hb⟩, hc⟩ := hx
    obtain ⟨kb, rfl⟩ := Int.eq_ofNat_of_zero_le hb.1
    obtain ⟨kc, rfl⟩ := Int.eq_ofNat_of_zero_le hc.1
    by_cases e12 : o = 12
    · subst e12; exact spec_insVal12 w a E m A0 c0 A1 c1 h0 h1 kb kc (by omega) (by omega)
    by_cases e11 : o = 11
    · subst e11; exact spec_insVal11 w a E m A0 c0 A1 c1 h0 h1 kb kc (by omega) (by omega) hm.rc
    · exact spec_insValB w a E m A0 c0 A1 c1 h0 h1 kb kc o (by omega) (by omega) hm.rc (by omega)
  split at hx
  · cases hx
  split at hx
  · rename_i h; subst h; exact spec_insVal1 w a b c E m A0 c0 A1 c1 h0 h1
  split at hx
  · rename_i h
    simp only [Bool.and_eq_true, inB_iff] at hx
    obtain ⟨_, hb⟩ := hx
    obtain ⟨kb, rfl⟩ := Int.eq_ofNat_of_zero_le hb.1
    rcases h with rfl | rfl | rfl
    · exact spec_insVal2 w a c E m A0 c0 A1 c1 h0 h1 kb (by omega)
    · exact spec_insVal3 w a c E m A0 c0 A1 c1 h0 h1 kb (by omega) (hm.rc.at _)
    · exact spec_insVal4 w a c E m A0 c0 A1 c1 h0 h1 kb (by omega)
  split at hx
  · rename_i h
    simp only [Bool.and_eq_true, inB_iff] at hx
    rcases h with rfl | rfl
    · rcases Int.lt_or_le E.q 0 with hq | hq
      · exact spec_insVal13n w a b c E m A0 c0 A1 c1 h0 h1 hx.2.1 hx.2.2 hm.t0 hm.t1 hq
      · exact spec_insVal13y w a b c E m A0 c0 A1 c1 h0 h1 hx.2.1 hx.2.2 hm.t0 hm.t1 hq
    · exact spec_insVal14 w a b c E m A0 c0 A1 c1 h0 h1 hx.2.1 hx.2.2 hm.k0 hm.k1
  split at hx
  · rename_i h; rcases h with h | h
    · exact absurd h h15
    · exact absurd h h16
  split at hx
  · rename_i h; subst h
    simp only [Bool.and_eq_true, inB_iff] at hx
    rcases Int.lt_or_le E.q 0 with hq | hq
    · exact spec_insVal20n w a b c E m A0 c0 A1 c1 h0 h1 hq
    · obtain ⟨s0, s1, s2⟩ := slot_in hx.2.1 hx.2.2 hs hq (hm.q1 hq) hm.r1
      have := hm.sl
      obtain ⟨ks, hks⟩ := Int.eq_ofNat_of_zero_le (show 0 ≤ b * E.reqs + E.q by omega)
      exact spec_insVal20y w a b c E m A0 c0 A1 c1 h0 h1 ks hks (by omega) (by omega) s0 hq
  · cases hx
end
end Go.Proofs.YtlhpbpkefkabgaaGreat.L1
