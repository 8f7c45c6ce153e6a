/- ValidState of the reference. -/
import Derived.Test.YtlhpbpkefkabgaaGreatQF7
import Derived.Test.YtlhpbpkefkabgaaGreatQF10
namespace Go.Proofs.YtlhpbpkefkabgaaGreat.L1
open Go.RowKit Go.Proofs.YtlhpbpkefkabgaaGreatW.PrintWords Go.Proofs.YtlhpbpkefkabgaaGreat.B
set_option linter.unusedVariables false
set_option linter.unusedSimpArgs false
attribute [local go_sem] mk_cell mk_frozen
def St.bare (s : St) : Bool := decide (s.node = 0) && decide (s.time = 0) && decide (s.dist = 0) && decide (s.load = 0) && decide (s.s0.length = 0) && decide (s.s1.length = 0) && decide (s.s2.length = 0)
def allIn (xs : List Int) (lo hi : Int) : Bool := allI xs.length (fun k => inB (xs.getD k 0) lo hi)
def placeOk (x : Inst) (v pos node : Int) : Bool := if 0 < pos then x.stop node else decide (node = v)
def St.runOk (c : Code) (x : Inst) (v : Int) (s : St) : Bool :=
  inB s.pos 0 4096 && placeOk x v s.pos s.node && inB s.time 0 1000000000 && inB s.dist 0 1000000000 && inB s.load (-1000000000) 1000000000 && decide ((s.s0.length : Int) = x.qs.length) && allIn s.s0 0 2 && decide ((s.s1.length : Int) = c.regs) && allIn s.s1 (-1000000000) 1000000000 && decide ((s.s2.length : Int) = c.slots * x.qs.length) && allIn s.s2 (-1000000000) 1000000000
def St.ok (c : Code) (x : Inst) (v : Int) (s : St) : Bool := if 0 ≤ s.rule then s.bare && inB s.pos 0 4097 && decide (s.rule ≤ 100) else if s.rule ≠ -1 then false else if s.pos = -1 then s.bare else s.runOk c x v
def askOk (c : Code) (x : Inst) (v : Int) : Bool := c.valid && x.valid && inB v 0 (x.vs.length - 1)
def stateOk (c : Code) (x : Inst) (v : Int) (s : St) : Bool := askOk c x v && s.ok c x v
section
variable (w : World)
set_option maxRecDepth 100000 in
set_option maxHeartbeats 2000000 in
theorem spec_bare (v : Value) (s : St) (hr : ReadState w v s) : Calls Tryz.prog 48 #[v] w fun e w' => e = .returned (.bool s.bare) ∧ Below w.heap.size w w' := by
  obtain ⟨S0, g0, S1, g1, S2, g2, rfl, r0, r1, r2⟩ := hr
  clear r0 r1 r2
  by_cases h0 : s.node = 0
  rotate_left
  · have p0 : (s.node == 0) = false := beq_eq_false_iff_ne.2 (by omega)
    have q0 : decide (s.node = 0) = false := decide_eq_false (by omega)
    have HL := Aside0.mk (show s.bare = false by unfold St.bare; rw [decide_eq_false h0]; simp)
    clear h0
    go_enter Tryz.func48, Tryz.ntmps48
    go_wp2
    go_ret
    exact ⟨by rw [HL.out]; rfl, below_alloc (Below.refl _ _) _⟩
  have p0 : (s.node == 0) = true := beq_iff_eq.2 (by omega)
  have q0 : decide (s.node = 0) = true := decide_eq_true (by omega)
  by_cases h1 : s.time = 0
  rotate_left
  · have p1 : (s.time == 0) = false := beq_eq_false_iff_ne.2 (by omega)
    have q1 : decide (s.time = 0) = false := decide_eq_false (by omega)
    have HL := Aside0.mk (show s.bare = false by unfold St.bare; rw [decide_eq_false h1]; simp)
    clear h0 h1
    go_enter Tryz.func48, Tryz.ntmps48
    go_wp2
    go_ret
    exact ⟨by rw [HL.out]; rfl, below_alloc (Below.refl _ _) _⟩
  have p1 : (s.time == 0) = true := beq_iff_eq.2 (by omega)
  have q1 : decide (s.time = 0) = true := decide_eq_true (by omega)
  by_cases h2 : s.dist = 0
  rotate_left
  · have p2 : (s.dist == 0) = false := beq_eq_false_iff_ne.2 (by omega)
    have q2 : decide (s.dist = 0) = false := decide_eq_false (by omega)
    have HL := Aside0.mk (show s.bare = false by unfold St.bare; rw [decide_eq_false h2]; simp)
    clear h0 h1 h2
    go_enter Tryz.func48, Tryz.ntmps48
    go_wp2
    go_ret
    exact ⟨by rw [HL.out]; rfl, below_alloc (Below.refl _ _) _⟩
  have p2 : (s.dist == 0) = true := beq_iff_eq.2 (by omega)
  have q2 : decide (s.dist = 0) = true := decide_eq_true (by omega)
  by_cases h3 : s.load = 0
  rotate_left
  · have p3 : (s.load == 0) = false := beq_eq_false_iff_ne.2 (by omega)
    have q3 : decide (s.load = 0) = false := decide_eq_false (by omega)
    have HL := Aside0.mk (show s.bare = false by unfold St.bare; rw [decide_eq_false h3]; simp)
    clear h0 h1 h2 h3
    go_enter Tryz.func48, Tryz.ntmps48
    go_wp2
    go_ret
    exact ⟨by rw [HL.out]; rfl, below_alloc (Below.refl _ _) _⟩
  have p3 : (s.load == 0) = true := beq_iff_eq.2 (by omega)
  have q3 : decide (s.load = 0) = true := decide_eq_true (by omega)
  by_cases h4 : s.s0.length = 0
  rotate_left
  · have p4 : ((s.s0.length : Int) == 0) = false := beq_eq_false_iff_ne.2 (by omega)
    have q4 : decide ((s.s0.length : Int) = 0) = false := decide_eq_false (by omega)
    have HL := Aside0.mk (show s.bare = false by unfold St.bare; rw [decide_eq_false h4]; simp)
    clear h0 h1 h2 h3 h4
    go_enter Tryz.func48, Tryz.ntmps48
    go_wp2
    go_ret
    exact ⟨by rw [HL.out]; rfl, below_alloc (Below.refl _ _) _⟩
  have p4 : ((s.s0.length : Int) == 0) = true := beq_iff_eq.2 (by omega)
  have q4 : decide ((s.s0.length : Int) = 0) = true := decide_eq_true (by omega)
  by_cases h5 : s.s1.length = 0
  rotate_left
  · have p5 : ((s.s1.length : Int) == 0) = false := beq_eq_false_iff_ne.2 (by omega)
    have q5 : decide ((s.s1.length : Int) = 0) = false := decide_eq_false (by omega)
    have HL := Aside0.mk (show s.bare = false by unfold St.bare; rw [decide_eq_false h5]; simp)
    clear h0 h1 h2 h3 h4 h5
    go_enter Tryz.func48, Tryz.ntmps48
    go_wp2
    go_ret
    exact ⟨by rw [HL.out]; rfl, below_alloc (Below.refl _ _) _⟩
  have p5 : ((s.s1.length : Int) == 0) = true := beq_iff_eq.2 (by omega)
  have q5 : decide ((s.s1.length : Int) = 0) = true := decide_eq_true (by omega)
  by_cases h6 : s.s2.length = 0
  rotate_left
  · have p6 : ((s.s2.length : Int) == 0) = false := beq_eq_false_iff_ne.2 (by omega)
    have q6 : decide ((s.s2.length : Int) = 0) = false := decide_eq_false (by omega)
    have HL := Aside0.mk (show s.bare = false by unfold St.bare; rw [decide_eq_false h6]; simp)
    clear h0 h1 h2 h3 h4 h5 h6
    go_enter Tryz.func48, Tryz.ntmps48
    go_wp2
    go_ret
    exact ⟨by rw [HL.out]; rfl, below_alloc (Below.refl _ _) _⟩
  have p6 : ((s.s2.length : Int) == 0) = true := beq_iff_eq.2 (by omega)
  have q6 : decide ((s.s2.length : Int) = 0) = true := decide_eq_true (by omega)
  have HL := Aside0.mk (show s.bare = true by unfold St.bare; rw [decide_eq_true h0, decide_eq_true h1, decide_eq_true h2, decide_eq_true h3, decide_eq_true h4, decide_eq_true h5, decide_eq_true h6]; rfl)
  clear h0 h1 h2 h3 h4 h5 h6
  go_enter Tryz.func48, Tryz.ntmps48
  go_wp2
  go_ret
  exact ⟨by rw [HL.out]; rfl, below_alloc (Below.refl _ _) _⟩
set_option maxRecDepth 100000 in
set_option maxHeartbeats 2000000 in
theorem spec_allIn (R : Option Addr) (rc : Nat) (xs : List Int) (hr : kInt.C w R xs.length xs) (lo hi : Int) : Calls Tryz.prog 50 #[.slice R xs.length rc, .int .i64 lo, .int .i64 hi] w fun e w' => e = .returned (.bool (allIn xs lo hi)) ∧ Below w.heap.size w w' := by
  have hml := hr.2.1; have HR := Aside0.mk hr; clear hr
  go_enter Tryz.func50, Tryz.ntmps50
  go_wp2_with fail
  go_loopg [7] (xs.length + 1) (fun q v4 wr => ∃ k, q = xs.length + 1 - k ∧ k ≤ xs.length ∧ v4 = .int .i64 k ∧ Aside0 (∀ j, j < k → inB (xs.getD j 0) lo hi = true) ∧ Aside0 (Below w.heap.size w wr))
  case atStart => exact ⟨0, by omega, by omega, rfl, ⟨fun j hj => absurd hj (Nat.not_lt_zero _)⟩, ⟨Below.refl _ _⟩⟩
  case round =>
    obtain ⟨k, rfl, hk, rfl, HP, HB⟩ := hrel
    by_cases hlt : k < xs.length
    · obtain ⟨ad, e0, t0, t1⟩ := Kd.flat_cells (d := kInt) rfl (Kd.C_below HR.out HB.out) 0 k hlt
      cases e0
      have z3 := t0 _ rfl; simp only [Nat.mul_one] at z3
      clear t0 t1
      generalize hy : xs.getD k 0 = y at z3
      have HY := Aside0.mk hy; clear hy
      go_wp2_with fail
      go_at_call 47
      refine (spec_l1In _ _ _ _).mono ?_
      rintro e w' ⟨rfl, rfl⟩
      cases hst : inB y lo hi with
      | false =>
        have HL := Aside0.mk (show allIn xs lo hi = false from allI_false hlt (by rw [HY.out]; exact hst)); clear hst
        go_wp2
        go_ret
        exact ⟨by rw [HL.out]; rfl, HB.out⟩
      | true =>
        have HP1 := Aside0.mk (show ∀ j, j < k + 1 → inB (xs.getD j 0) lo hi = true from fun j hj => by
          rcases Nat.lt_or_ge j k with h | h
          · exact HP.out j h
          · rw [show j = k by omega, HY.out]; exact hst); clear hst
        go_wp2
        go_roundg (xs.length + 1 - (k + 1))
        case measure => omega
        case rel => exact ⟨k + 1, rfl, hlt, by go_num, HP1, HB⟩
    · have HL := Aside0.mk (show allIn xs lo hi = true from allI_iff.2 fun j hj => HP.out j (by omega))
      go_wp2
      go_ret
      exact ⟨by rw [HL.out]; rfl, HB.out⟩
set_option maxRecDepth 100000 in
set_option maxHeartbeats 2000000 in
theorem impl_bare (v : Value) (s : St) (hr : ReadState w v s) (hs : s.small) : Calls Tryz.prog 98 #[v] w fun e w' => e = .returned (.bool s.bare) ∧ Below w.heap.size w w' := by
  obtain ⟨S0, g0, S1, g1, S2, g2, rfl, r0, r1, r2⟩ := hr
  clear r0 r1 r2
  obtain ⟨n0, n1, n2⟩ := hs
  by_cases h0 : s.node = 0
  rotate_left
  · have p0 : (s.node == 0) = false := beq_eq_false_iff_ne.2 (by omega)
    have q0 : decide (s.node = 0) = false := decide_eq_false (by omega)
    have HL := Aside0.mk (show s.bare = false by unfold St.bare; rw [decide_eq_false h0]; simp)
    clear h0
    go_enter Tryz.func98, Tryz.ntmps98
    go_wp2
    go_ret
    exact ⟨by rw [HL.out]; rfl, below_alloc (Below.refl _ _) _⟩
  have p0 : (s.node == 0) = true := beq_iff_eq.2 (by omega)
  have q0 : decide (s.node = 0) = true := decide_eq_true (by omega)
  by_cases h1 : s.time = 0
  rotate_left
  · have p1 : (s.time == 0) = false := beq_eq_false_iff_ne.2 (by omega)
    have q1 : decide (s.time = 0) = false := decide_eq_false (by omega)
    have HL := Aside0.mk (show s.bare = false by unfold St.bare; rw [decide_eq_false h1]; simp)
    clear h0 h1
    go_enter Tryz.func98, Tryz.ntmps98
    go_wp2
    go_ret
    exact ⟨by rw [HL.out]; rfl, below_alloc (Below.refl _ _) _⟩
  have p1 : (s.time == 0) = true := beq_iff_eq.2 (by omega)
  have q1 : decide (s.time = 0) = true := decide_eq_true (by omega)
  by_cases h2 : s.dist = 0
  rotate_left
  · have p2 : (s.dist == 0) = false := beq_eq_false_iff_ne.2 (by omega)
    have q2 : decide (s.dist = 0) = false := decide_eq_false (by omega)
    have HL := Aside0.mk (show s.bare = false by unfold St.bare; rw [decide_eq_false h2]; simp)
    clear h0 h1 h2
    go_enter Tryz.func98, Tryz.ntmps98
    go_wp2
    go_ret
    exact ⟨by rw [HL.out]; rfl, below_alloc (Below.refl _ _) _⟩
  have p2 : (s.dist == 0) = true := beq_iff_eq.2 (by omega)
  have q2 : decide (s.dist = 0) = true := decide_eq_true (by omega)
  by_cases h3 : s.load = 0
  rotate_left
  · have p3 : (s.load == 0) = false := beq_eq_false_iff_ne.2 (by omega)
    have q3 : decide (s.load = 0) = false := decide_eq_false (by omega)
    have HL := Aside0.mk (show s.bare = false by unfold St.bare; rw [decide_eq_false h3]; simp)
    clear h0 h1 h2 h3
    go_enter Tryz.func98, Tryz.ntmps98
    go_wp2
    go_ret
    exact ⟨by rw [HL.out]; rfl, below_alloc (Below.refl _ _) _⟩
  have p3 : (s.load == 0) = true := beq_iff_eq.2 (by omega)
  have q3 : decide (s.load = 0) = true := decide_eq_true (by omega)
  have e0 : IntKind.i64.wrap ((s.s0.length : Int) + (s.s1.length : Int)) = (s.s0.length : Int) + (s.s1.length : Int) := IntWalk.i64_in _ (by omega)
  have e1 : IntKind.i64.wrap ((s.s0.length : Int) + (s.s1.length : Int) + (s.s2.length : Int)) = (s.s0.length : Int) + (s.s1.length : Int) + (s.s2.length : Int) := IntWalk.i64_in _ (by omega)
  by_cases h4 : s.s0.length = 0 ∧ s.s1.length = 0 ∧ s.s2.length = 0
  rotate_left
  · have p4 : ((s.s0.length : Int) + (s.s1.length : Int) + (s.s2.length : Int) == 0) = false := beq_eq_false_iff_ne.2 (by omega)
    have q4 : decide ((s.s0.length : Int) + (s.s1.length : Int) + (s.s2.length : Int) = 0) = false := decide_eq_false (by omega)
    have HL := Aside0.mk (show s.bare = false by cases hb : s.bare with | false => rfl | true => (unfold St.bare at hb; simp only [Bool.and_eq_true, decide_eq_true_eq] at hb; omega))
    clear h0 h1 h2 h3 h4
    go_enter Tryz.func98, Tryz.ntmps98
    go_wp2
    go_ret
    exact ⟨by rw [HL.out]; rfl, below_alloc (Below.refl _ _) _⟩
  obtain ⟨h4, h5, h6⟩ := h4
  have p4 : ((s.s0.length : Int) + (s.s1.length : Int) + (s.s2.length : Int) == 0) = true := beq_iff_eq.2 (by omega)
  have q4 : decide ((s.s0.length : Int) + (s.s1.length : Int) + (s.s2.length : Int) = 0) = true := decide_eq_true (by omega)
  have HL := Aside0.mk (show s.bare = true by unfold St.bare; rw [decide_eq_true h0, decide_eq_true h1, decide_eq_true h2, decide_eq_true h3, decide_eq_true h4, decide_eq_true h5, decide_eq_true h6]; rfl)
  clear h0 h1 h2 h3 h4 h5 h6
  go_enter Tryz.func98, Tryz.ntmps98
  go_wp2
  go_ret
  exact ⟨by rw [HL.out]; rfl, below_alloc (Below.refl _ _) _⟩
end
end Go.Proofs.YtlhpbpkefkabgaaGreat.L1
