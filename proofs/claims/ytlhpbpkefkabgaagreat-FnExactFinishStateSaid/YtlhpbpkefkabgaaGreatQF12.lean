/- ValidState of the reference. -/
import Derived.Test.YtlhpbpkefkabgaaGreatQF11
namespace Go.Proofs.YtlhpbpkefkabgaaGreat.L1
open Go.RowKit Go.Proofs.YtlhpbpkefkabgaaGreatW.PrintWords Go.Proofs.YtlhpbpkefkabgaaGreat.B
set_option linter.unusedVariables false
set_option linter.unusedSimpArgs false
attribute [local go_sem] mk_cell mk_frozen
theorem Code.valid_slots {c : Code} (h : c.valid = true) : inB c.slots 0 100 = true := by
  unfold Code.valid at h; simp only [Bool.and_eq_true] at h; exact h.1.1.1.2
theorem Code.valid_regs {c : Code} (h : c.valid = true) : inB c.regs 13 1000 = true := by
  unfold Code.valid at h; simp only [Bool.and_eq_true] at h; exact h.1.1.1.1
theorem mul_in {a : Int} {n : Nat} (h0 : 0 ≤ a) (h1 : a ≤ 100) (hn : n ≤ 1000) : IntKind.i64.wrap (a * (n : Int)) = a * (n : Int) := by
  have h2 : a * (n : Int) ≤ 100 * 1000 := Int.mul_le_mul h1 (by omega) (by omega) (by omega)
  have h3 : 0 ≤ a * (n : Int) := Int.mul_nonneg h0 (by omega)
  exact IntWalk.i64_in _ (by omega)
section
variable (w : World)
set_option maxRecDepth 100000 in
set_option maxHeartbeats 4000000 in
theorem spec_ValidState (u v1 t : Value) (c : Code) (hc : ReadCode w u c) (x : Inst) (hx : ReadInst w v1 x) (v : Int) (s : St) (hs : ReadState w t s) (hn : s.small) : Calls Tryz.prog 26 #[u, v1, .int .i64 v, t] w fun e w' => e = .returned (.bool (stateOk c x v s)) ∧ Below w.heap.size w w' := by
  have HX := Aside0.mk (And.intro hc (And.intro hx hs))
  obtain ⟨A0, c0, A1, c1, A2, c2, rfl, a0, a1, a2⟩ := hc
  obtain ⟨B0, d0, B1, d1, B2, d2, rfl, b0, b1, b2⟩ := hx
  obtain ⟨S0, g0, S1, g1, S2, g2, rfl, s0, s1, s2⟩ := hs
  have HS := Aside0.mk (And.intro s0 (And.intro s1 s2))
  clear a0 a1 a2 b0 b1 b2 s0 s1 s2
  have HN := Aside0.mk hn; clear hn
  have HB0 := Aside0.mk (below_alloc (below_alloc (below_alloc (Below.refl w.heap.size w) (.cells #[.int .i64 c.regs, .int .i64 c.slots, .slice A0 c.b0.length c0, .slice A1 c.b1.length c1, .slice A2 c.b2.length c2] 41)) (.cells #[.slice B0 x.vs.length d0, .slice B1 x.qs.length d1, .slice B2 x.rs.length d2] 47)) (.cells #[.int .i64 s.pos, .int .i64 s.rule, .int .i64 s.node, .int .i64 s.time, .int .i64 s.dist, .int .i64 s.load, .slice S0 s.s0.length g0, .slice S1 s.s1.length g1, .slice S2 s.s2.length g2] 49))
  have h := al_new w (.cells #[.int .i64 c.regs, .int .i64 c.slots, .slice A0 c.b0.length c0, .slice A1 c.b1.length c1, .slice A2 c.b2.length c2] 41)
  replace h := blk_box h (.cells #[.slice B0 x.vs.length d0, .slice B1 x.qs.length d1, .slice B2 x.rs.length d2] 47)
  replace h := blk_box h (.cells #[.int .i64 s.pos, .int .i64 s.rule, .int .i64 s.node, .int .i64 s.time, .int .i64 s.dist, .int .i64 s.load, .slice S0 s.s0.length g0, .slice S1 s.s1.length g1, .slice S2 s.s2.length g2] 49)
  have HC0 := Aside0.mk h; clear h
  have h := al_new (w.alloc (.cells #[.int .i64 c.regs, .int .i64 c.slots, .slice A0 c.b0.length c0, .slice A1 c.b1.length c1, .slice A2 c.b2.length c2] 41)) (.cells #[.slice B0 x.vs.length d0, .slice B1 x.qs.length d1, .slice B2 x.rs.length d2] 47)
  simp only [al_size] at h
  replace h := blk_box h (.cells #[.int .i64 s.pos, .int .i64 s.rule, .int .i64 s.node, .int .i64 s.time, .int .i64 s.dist, .int .i64 s.load, .slice S0 s.s0.length g0, .slice S1 s.s1.length g1, .slice S2 s.s2.length g2] 49)
  have HI0 := Aside0.mk h; clear h
  have h := al_new ((w.alloc (.cells #[.int .i64 c.regs, .int .i64 c.slots, .slice A0 c.b0.length c0, .slice A1 c.b1.length c1, .slice A2 c.b2.length c2] 41)).alloc (.cells #[.slice B0 x.vs.length d0, .slice B1 x.qs.length d1, .slice B2 x.rs.length d2] 47)) (.cells #[.int .i64 s.pos, .int .i64 s.rule, .int .i64 s.node, .int .i64 s.time, .int .i64 s.dist, .int .i64 s.load, .slice S0 s.s0.length g0, .slice S1 s.s1.length g1, .slice S2 s.s2.length g2] 49)
  simp only [al_size] at h
  have HS0 := Aside0.mk h; clear h
  go_enter Tryz.func26, Tryz.ntmps26
  go_wp2_with fail
  go_at_call 40
  refine (spec_ValidCode _ _ c (HX.out.1.below HB0.out)).mono ?_
  rintro e w1 ⟨rfl, hb⟩
  have HB1 := Aside0.mk (bel_call HB0.out hb) ; have HC1 := Aside0.mk (blk_below HC0.out hb) ; have HI1 := Aside0.mk (blk_below HI0.out hb) ; have HS1 := Aside0.mk (blk_below HS0.out hb) ; clear hb
  cases hq : c.valid with
  | false =>
    have HL := Aside0.mk (show stateOk c x v s = false by unfold stateOk askOk; rw [hq]; rfl); clear hq
    obtain ⟨c1, c2⟩ := lay (Below.refl _ _) HC1.out
    obtain ⟨i1, i2⟩ := lay (Below.refl _ _) HI1.out
    obtain ⟨s1, s2⟩ := lay (Below.refl _ _) HS1.out
    go_wp2
    go_ret
    exact ⟨by rw [HL.out]; rfl, HB1.out⟩
  | true =>
  have G0 := Aside0.mk hq; clear hq
  obtain ⟨c1, c2⟩ := lay (Below.refl _ _) HC1.out
  obtain ⟨i1, i2⟩ := lay (Below.refl _ _) HI1.out
  obtain ⟨s1, s2⟩ := lay (Below.refl _ _) HS1.out
  go_wp2_with fail
  clear c1 c2 i1 i2 s1 s2
  go_at_call 46
  refine (spec_validInst _ _ x (HX.out.2.1.below HB1.out)).mono ?_
  rintro e w2 ⟨rfl, hb⟩
  have HB2 := Aside0.mk (bel_call HB1.out hb) ; have HC2 := Aside0.mk (blk_below HC1.out hb) ; have HI2 := Aside0.mk (blk_below HI1.out hb) ; have HS2 := Aside0.mk (blk_below HS1.out hb) ; clear hb
  cases hq : x.valid with
  | false =>
    have HL := Aside0.mk (show stateOk c x v s = false by unfold stateOk askOk; rw [hq]; simp); clear hq
    obtain ⟨c1, c2⟩ := lay (Below.refl _ _) HC2.out
    obtain ⟨i1, i2⟩ := lay (Below.refl _ _) HI2.out
    obtain ⟨s1, s2⟩ := lay (Below.refl _ _) HS2.out
    go_wp2
    go_ret
    exact ⟨by rw [HL.out]; rfl, HB2.out⟩
  | true =>
  have G1 := Aside0.mk hq; clear hq
  obtain ⟨f0, f1, f2⟩ := Inst.few_of G1.out
  have HS1 := Aside0.mk (show x.small from ⟨by omega, by omega, by omega⟩)
  have q0 : IntKind.i64.wrap ((x.vs.length : Int) - 1) = (x.vs.length : Int) - 1 := IntWalk.i64_in _ (by omega)
  clear f0 f1 f2
  obtain ⟨c1, c2⟩ := lay (Below.refl _ _) HC2.out
  obtain ⟨i1, i2⟩ := lay (Below.refl _ _) HI2.out
  obtain ⟨s1, s2⟩ := lay (Below.refl _ _) HS2.out
  go_wp2_with fail
  clear c1 c2 i1 i2 s1 s2
  go_at_call 47
  refine (spec_l1In _ _ _ _).mono ?_
  rintro e w' ⟨rfl, rfl⟩
  cases hq : inB v 0 (x.vs.length - 1) with
  | false =>
    have HL := Aside0.mk (show stateOk c x v s = false by unfold stateOk askOk; rw [hq]; simp); clear hq
    obtain ⟨c1, c2⟩ := lay (Below.refl _ _) HC2.out
    obtain ⟨i1, i2⟩ := lay (Below.refl _ _) HI2.out
    obtain ⟨s1, s2⟩ := lay (Below.refl _ _) HS2.out
    go_wp2
    go_ret
    exact ⟨by rw [HL.out]; rfl, HB2.out⟩
  | true =>
  have G2 := Aside0.mk hq; clear hq
  have GA := Aside0.mk (show stateOk c x v s = s.ok c x v by unfold stateOk askOk; rw [G0.out, G1.out, G2.out]; rfl)
  by_cases hr : 0 ≤ s.rule
  · have p0 : decide (0 ≤ s.rule) = true := decide_eq_true hr
    have GR := Aside0.mk (show stateOk c x v s = (s.bare && inB s.pos 0 4097 && decide (s.rule ≤ 100)) by rw [GA.out]; unfold St.ok; rw [if_pos hr])
    clear hr
    obtain ⟨c1, c2⟩ := lay (Below.refl _ _) HC2.out
    obtain ⟨i1, i2⟩ := lay (Below.refl _ _) HI2.out
    obtain ⟨s1, s2⟩ := lay (Below.refl _ _) HS2.out
    go_wp2_with fail
    clear c1 c2 i1 i2 s1 s2
    go_at_call 48
    refine (spec_bare _ _ s (HX.out.2.2.below HB2.out)).mono ?_
    rintro e w3 ⟨rfl, hb⟩
    have HB3 := Aside0.mk (bel_call HB2.out hb) ; have HC3 := Aside0.mk (blk_below HC2.out hb) ; have HI3 := Aside0.mk (blk_below HI2.out hb) ; have HS3 := Aside0.mk (blk_below HS2.out hb) ; clear hb
    cases hq : s.bare with
    | false =>
      have HL := Aside0.mk (show stateOk c x v s = false by rw [GR.out, hq]; simp); clear hq
      obtain ⟨c1, c2⟩ := lay (Below.refl _ _) HC3.out
      obtain ⟨i1, i2⟩ := lay (Below.refl _ _) HI3.out
      obtain ⟨s1, s2⟩ := lay (Below.refl _ _) HS3.out
      go_wp2
      go_ret
      exact ⟨by rw [HL.out]; rfl, HB3.out⟩
    | true =>
    have G3 := Aside0.mk hq; clear hq
    obtain ⟨c1, c2⟩ := lay (Below.refl _ _) HC3.out
    obtain ⟨i1, i2⟩ := lay (Below.refl _ _) HI3.out
    obtain ⟨s1, s2⟩ := lay (Below.refl _ _) HS3.out
    go_wp2_with fail
    clear c1 c2 i1 i2 s1 s2
    go_at_call 47
    refine (spec_l1In _ _ _ _).mono ?_
    rintro e w' ⟨rfl, rfl⟩
    cases hq : inB s.pos 0 4097 with
    | false =>
      have HL := Aside0.mk (show stateOk c x v s = false by rw [GR.out, hq]; simp); clear hq
      obtain ⟨c1, c2⟩ := lay (Below.refl _ _) HC3.out
      obtain ⟨i1, i2⟩ := lay (Below.refl _ _) HI3.out
      obtain ⟨s1, s2⟩ := lay (Below.refl _ _) HS3.out
      go_wp2
      go_ret
      exact ⟨by rw [HL.out]; rfl, HB3.out⟩
    | true =>
    have G4 := Aside0.mk hq; clear hq
    cases hq : decide (s.rule ≤ 100) with
    | false =>
      have HL := Aside0.mk (show stateOk c x v s = false by rw [GR.out, hq]; simp)
      obtain ⟨c1, c2⟩ := lay (Below.refl _ _) HC3.out
      obtain ⟨i1, i2⟩ := lay (Below.refl _ _) HI3.out
      obtain ⟨s1, s2⟩ := lay (Below.refl _ _) HS3.out
      go_wp2
      go_ret
      exact ⟨by rw [HL.out]; rfl, HB3.out⟩
    | true =>
    have G5 := Aside0.mk hq
    have HL := Aside0.mk (show stateOk c x v s = true by rw [GR.out, G3.out, G4.out, G5.out]; rfl)
    obtain ⟨c1, c2⟩ := lay (Below.refl _ _) HC3.out
    obtain ⟨i1, i2⟩ := lay (Below.refl _ _) HI3.out
    obtain ⟨s1, s2⟩ := lay (Below.refl _ _) HS3.out
    go_wp2
    go_ret
    exact ⟨by rw [HL.out]; rfl, HB3.out⟩
  have p0 : decide (0 ≤ s.rule) = false := decide_eq_false hr
  by_cases hm : s.rule = -1
  rotate_left
  · have p1 : (s.rule == -1) = false := beq_eq_false_iff_ne.2 hm
    have p2 : decide (s.rule = -1) = false := decide_eq_false hm
    have p3 : (s.rule != -1) = true := by simp [hm]
    have HL := Aside0.mk (show stateOk c x v s = false by rw [GA.out]; unfold St.ok; rw [if_neg hr, if_pos hm]); clear hr
    obtain ⟨c1, c2⟩ := lay (Below.refl _ _) HC2.out
    obtain ⟨i1, i2⟩ := lay (Below.refl _ _) HI2.out
    obtain ⟨s1, s2⟩ := lay (Below.refl _ _) HS2.out
    go_wp2
    go_ret
    exact ⟨by rw [HL.out]; rfl, HB2.out⟩
  have p1 : (s.rule == -1) = true := beq_iff_eq.2 hm
  have p2 : decide (s.rule = -1) = true := decide_eq_true hm
  have p3 : (s.rule != -1) = false := by simp [hm]
  by_cases hp : s.pos = -1
  · have p4 : (s.pos == -1) = true := beq_iff_eq.2 hp
    have p5 : decide (s.pos = -1) = true := decide_eq_true hp
    have GR := Aside0.mk (show stateOk c x v s = s.bare by rw [GA.out]; unfold St.ok; rw [if_neg hr, if_neg (by rw [hm]; simp), if_pos hp])
    clear hr
    have HM := Aside0.mk hm; have HP := Aside0.mk hp; clear hm hp
    obtain ⟨c1, c2⟩ := lay (Below.refl _ _) HC2.out
    obtain ⟨i1, i2⟩ := lay (Below.refl _ _) HI2.out
    obtain ⟨s1, s2⟩ := lay (Below.refl _ _) HS2.out
    go_wp2_with fail
    clear c1 c2 i1 i2 s1 s2
    go_at_call 48
    refine (spec_bare _ _ s (HX.out.2.2.below HB2.out)).mono ?_
    rintro e w3 ⟨rfl, hb⟩
    have HB3 := Aside0.mk (bel_call HB2.out hb) ; have HC3 := Aside0.mk (blk_below HC2.out hb) ; have HI3 := Aside0.mk (blk_below HI2.out hb) ; have HS3 := Aside0.mk (blk_below HS2.out hb) ; clear hb
    have HL := GR
    obtain ⟨c1, c2⟩ := lay (Below.refl _ _) HC3.out
    obtain ⟨i1, i2⟩ := lay (Below.refl _ _) HI3.out
    obtain ⟨s1, s2⟩ := lay (Below.refl _ _) HS3.out
    go_wp2
    go_ret
    exact ⟨by rw [HL.out]; rfl, HB3.out⟩
  have p4 : (s.pos == -1) = false := beq_eq_false_iff_ne.2 hp
  have p5 : decide (s.pos = -1) = false := decide_eq_false hp
  have GR := Aside0.mk (show stateOk c x v s = s.runOk c x v by rw [GA.out]; unfold St.ok; rw [if_neg hr, if_neg (by rw [hm]; simp), if_neg hp])
  have HM := Aside0.mk hm; have HP := Aside0.mk hp; clear hm hp hr
  have GR2 := Aside0.mk (show stateOk c x v s = (inB s.pos 0 4096 && placeOk x v s.pos s.node && inB s.time 0 1000000000 && inB s.dist 0 1000000000 && inB s.load (-1000000000) 1000000000 && decide ((s.s0.length : Int) = x.qs.length) && allIn s.s0 0 2 && decide ((s.s1.length : Int) = c.regs) && allIn s.s1 (-1000000000) 1000000000 && decide ((s.s2.length : Int) = c.slots * x.qs.length) && allIn s.s2 (-1000000000) 1000000000) from GR.out); clear GR; have GR := GR2; clear GR2
  have hsl : 0 ≤ c.slots ∧ c.slots ≤ 100 := (inB_iff _ _ _).1 (Code.valid_slots G0.out)
  have q1 : IntKind.i64.wrap (c.slots * (x.qs.length : Int)) = c.slots * (x.qs.length : Int) := mul_in hsl.1 hsl.2 (by have := Inst.few_of G1.out; omega)
  clear hsl
  by_cases hp : 0 < s.pos
  · have p6 : decide (0 < s.pos) = true := decide_eq_true hp
    have HPL := Aside0.mk (show placeOk x v s.pos s.node = x.stop s.node by unfold placeOk; rw [if_pos hp]); clear hp
    obtain ⟨c1, c2⟩ := lay (Below.refl _ _) HC2.out
    obtain ⟨i1, i2⟩ := lay (Below.refl _ _) HI2.out
    obtain ⟨s1, s2⟩ := lay (Below.refl _ _) HS2.out
    go_wp2_with fail
    clear c1 c2 i1 i2 s1 s2
    go_at_call 49
    refine (spec_stop _ _ x (HX.out.2.1.below HB2.out) HS1.out s.node).mono ?_
    rintro e w3 ⟨rfl, hb⟩
    have HB3 := Aside0.mk (bel_call HB2.out hb) ; have HC3 := Aside0.mk (blk_below HC2.out hb) ; have HI3 := Aside0.mk (blk_below HI2.out hb) ; have HS3 := Aside0.mk (blk_below HS2.out hb) ; clear hb
    rw [show inB s.node x.vs.length (x.nodes - 1) = x.stop s.node from rfl]
    cases hst : x.stop s.node with
    | false =>
      have GPL := Aside0.mk (show placeOk x v s.pos s.node = false by rw [HPL.out]; exact hst); clear hst
      have HL := Aside0.mk (show stateOk c x v s = false by rw [GR.out, GPL.out]; simp)
      obtain ⟨c1, c2⟩ := lay (Below.refl _ _) HC3.out
      obtain ⟨i1, i2⟩ := lay (Below.refl _ _) HI3.out
      obtain ⟨s1, s2⟩ := lay (Below.refl _ _) HS3.out
      go_wp2_with fail
      clear c1 c2 i1 i2 s1 s2
      go_at_call 47
      refine (spec_l1In _ _ _ _).mono ?_
      rintro e w' ⟨rfl, rfl⟩
      cases hq : inB s.pos 0 4096 with
      | false =>
        clear hq
        obtain ⟨c1, c2⟩ := lay (Below.refl _ _) HC3.out
        obtain ⟨i1, i2⟩ := lay (Below.refl _ _) HI3.out
        obtain ⟨s1, s2⟩ := lay (Below.refl _ _) HS3.out
        go_wp2
        go_ret
        exact ⟨by rw [HL.out]; rfl, HB3.out⟩
      | true =>
        clear hq
        obtain ⟨c1, c2⟩ := lay (Below.refl _ _) HC3.out
        obtain ⟨i1, i2⟩ := lay (Below.refl _ _) HI3.out
        obtain ⟨s1, s2⟩ := lay (Below.refl _ _) HS3.out
        go_wp2
        go_ret
        exact ⟨by rw [HL.out]; rfl, HB3.out⟩
    | true =>
      have GPL := Aside0.mk (show placeOk x v s.pos s.node = true by rw [HPL.out]; exact hst); clear hst
      obtain ⟨c1, c2⟩ := lay (Below.refl _ _) HC3.out
      obtain ⟨i1, i2⟩ := lay (Below.refl _ _) HI3.out
      obtain ⟨s1, s2⟩ := lay (Below.refl _ _) HS3.out
      go_wp2_with fail
      clear c1 c2 i1 i2 s1 s2
      go_at_call 47
      refine (spec_l1In _ _ _ _).mono ?_
      rintro e w' ⟨rfl, rfl⟩
      cases hq : inB s.pos 0 4096 with
      | false =>
        have HL := Aside0.mk (show stateOk c x v s = false by rw [GR.out, hq]; simp); clear hq
        obtain ⟨c1, c2⟩ := lay (Below.refl _ _) HC3.out
        obtain ⟨i1, i2⟩ := lay (Below.refl _ _) HI3.out
        obtain ⟨s1, s2⟩ := lay (Below.refl _ _) HS3.out
        go_wp2
        go_ret
        exact ⟨by rw [HL.out]; rfl, HB3.out⟩
      | true =>
      have GP := Aside0.mk hq; clear hq
      obtain ⟨c1, c2⟩ := lay (Below.refl _ _) HC3.out
      obtain ⟨i1, i2⟩ := lay (Below.refl _ _) HI3.out
      obtain ⟨s1, s2⟩ := lay (Below.refl _ _) HS3.out
      go_wp2_with fail
      clear c1 c2 i1 i2 s1 s2
      go_at_call 47
      refine (spec_l1In _ _ _ _).mono ?_
      rintro e w' ⟨rfl, rfl⟩
      cases hq : inB s.time 0 1000000000 with
      | false =>
        have HL := Aside0.mk (show stateOk c x v s = false by rw [GR.out, hq]; simp); clear hq
        obtain ⟨c1, c2⟩ := lay (Below.refl _ _) HC3.out
        obtain ⟨i1, i2⟩ := lay (Below.refl _ _) HI3.out
        obtain ⟨s1, s2⟩ := lay (Below.refl _ _) HS3.out
        go_wp2
        go_ret
        exact ⟨by rw [HL.out]; rfl, HB3.out⟩
      | true =>
      have GT := Aside0.mk hq; clear hq
      obtain ⟨c1, c2⟩ := lay (Below.refl _ _) HC3.out
      obtain ⟨i1, i2⟩ := lay (Below.refl _ _) HI3.out
      obtain ⟨s1, s2⟩ := lay (Below.refl _ _) HS3.out
      go_wp2_with fail
      clear c1 c2 i1 i2 s1 s2
      go_at_call 47
      refine (spec_l1In _ _ _ _).mono ?_
      rintro e w' ⟨rfl, rfl⟩
      cases hq : inB s.dist 0 1000000000 with
      | false =>
        have HL := Aside0.mk (show stateOk c x v s = false by rw [GR.out, hq]; simp); clear hq
        obtain ⟨c1, c2⟩ := lay (Below.refl _ _) HC3.out
        obtain ⟨i1, i2⟩ := lay (Below.refl _ _) HI3.out
        obtain ⟨s1, s2⟩ := lay (Below.refl _ _) HS3.out
        go_wp2
        go_ret
        exact ⟨by rw [HL.out]; rfl, HB3.out⟩
      | true =>
      have GD := Aside0.mk hq; clear hq
      obtain ⟨c1, c2⟩ := lay (Below.refl _ _) HC3.out
      obtain ⟨i1, i2⟩ := lay (Below.refl _ _) HI3.out
      obtain ⟨s1, s2⟩ := lay (Below.refl _ _) HS3.out
      go_wp2_with fail
      clear c1 c2 i1 i2 s1 s2
      go_at_call 47
      refine (spec_l1In _ _ _ _).mono ?_
      rintro e w' ⟨rfl, rfl⟩
      cases hq : inB s.load (-1000000000) 1000000000 with
      | false =>
        have HL := Aside0.mk (show stateOk c x v s = false by rw [GR.out, hq]; simp); clear hq
        obtain ⟨c1, c2⟩ := lay (Below.refl _ _) HC3.out
        obtain ⟨i1, i2⟩ := lay (Below.refl _ _) HI3.out
        obtain ⟨s1, s2⟩ := lay (Below.refl _ _) HS3.out
        go_wp2
        go_ret
        exact ⟨by rw [HL.out]; rfl, HB3.out⟩
      | true =>
      have GL := Aside0.mk hq; clear hq
      cases hq : decide ((s.s0.length : Int) = (x.qs.length : Int)) with
      | false =>
        have hqq : ((s.s0.length : Int) == (x.qs.length : Int)) = false := beq_eq_false_iff_ne.2 (of_decide_eq_false hq)
        have HL := Aside0.mk (show stateOk c x v s = false by rw [GR.out, hq]; simp)
        obtain ⟨c1, c2⟩ := lay (Below.refl _ _) HC3.out
        obtain ⟨i1, i2⟩ := lay (Below.refl _ _) HI3.out
        obtain ⟨s1, s2⟩ := lay (Below.refl _ _) HS3.out
        go_wp2
        go_ret
        exact ⟨by rw [HL.out]; rfl, HB3.out⟩
      | true =>
      have hqq0 : ((s.s0.length : Int) == (x.qs.length : Int)) = true := beq_iff_eq.2 (of_decide_eq_true hq)
      have GE0 := Aside0.mk hq
      clear hq
      have hqr0 : decide ((s.s0.length : Int) = (x.qs.length : Int)) = true := GE0.out
      obtain ⟨c1, c2⟩ := lay (Below.refl _ _) HC3.out
      obtain ⟨i1, i2⟩ := lay (Below.refl _ _) HI3.out
      obtain ⟨s1, s2⟩ := lay (Below.refl _ _) HS3.out
      go_wp2_with fail
      clear c1 c2 i1 i2 s1 s2
      go_at_call 50
      refine (spec_allIn _ S0 g0 s.s0 (Kd.C_below HS.out.1 HB3.out) 0 2).mono ?_
      rintro e w4 ⟨rfl, hb⟩
      have HB4 := Aside0.mk (bel_call HB3.out hb) ; have HC4 := Aside0.mk (blk_below HC3.out hb) ; have HI4 := Aside0.mk (blk_below HI3.out hb) ; have HS4 := Aside0.mk (blk_below HS3.out hb) ; clear hb
      cases hq : allIn s.s0 0 2 with
      | false =>
        have HL := Aside0.mk (show stateOk c x v s = false by rw [GR.out, hq]; simp); clear hq
        obtain ⟨c1, c2⟩ := lay (Below.refl _ _) HC4.out
        obtain ⟨i1, i2⟩ := lay (Below.refl _ _) HI4.out
        obtain ⟨s1, s2⟩ := lay (Below.refl _ _) HS4.out
        go_wp2
        go_ret
        exact ⟨by rw [HL.out]; rfl, HB4.out⟩
      | true =>
      have GA0 := Aside0.mk hq; clear hq
      cases hq : decide ((s.s1.length : Int) = c.regs) with
      | false =>
        have hqq : ((s.s1.length : Int) == c.regs) = false := beq_eq_false_iff_ne.2 (of_decide_eq_false hq)
        have HL := Aside0.mk (show stateOk c x v s = false by rw [GR.out, hq]; simp)
        obtain ⟨c1, c2⟩ := lay (Below.refl _ _) HC4.out
        obtain ⟨i1, i2⟩ := lay (Below.refl _ _) HI4.out
        obtain ⟨s1, s2⟩ := lay (Below.refl _ _) HS4.out
        go_wp2
        go_ret
        exact ⟨by rw [HL.out]; rfl, HB4.out⟩
      | true =>
      have hqq1 : ((s.s1.length : Int) == c.regs) = true := beq_iff_eq.2 (of_decide_eq_true hq)
      have GE1 := Aside0.mk hq
      clear hq
      have hqr1 : decide ((s.s1.length : Int) = c.regs) = true := GE1.out
      obtain ⟨c1, c2⟩ := lay (Below.refl _ _) HC4.out
      obtain ⟨i1, i2⟩ := lay (Below.refl _ _) HI4.out
      obtain ⟨s1, s2⟩ := lay (Below.refl _ _) HS4.out
      go_wp2_with fail
      clear c1 c2 i1 i2 s1 s2
      go_at_call 50
      refine (spec_allIn _ S1 g1 s.s1 (Kd.C_below HS.out.2.1 HB4.out) (-1000000000) 1000000000).mono ?_
      rintro e w5 ⟨rfl, hb⟩
      have HB5 := Aside0.mk (bel_call HB4.out hb) ; have HC5 := Aside0.mk (blk_below HC4.out hb) ; have HI5 := Aside0.mk (blk_below HI4.out hb) ; have HS5 := Aside0.mk (blk_below HS4.out hb) ; clear hb
      cases hq : allIn s.s1 (-1000000000) 1000000000 with
      | false =>
        have HL := Aside0.mk (show stateOk c x v s = false by rw [GR.out, hq]; simp); clear hq
        obtain ⟨c1, c2⟩ := lay (Below.refl _ _) HC5.out
        obtain ⟨i1, i2⟩ := lay (Below.refl _ _) HI5.out
        obtain ⟨s1, s2⟩ := lay (Below.refl _ _) HS5.out
        go_wp2
        go_ret
        exact ⟨by rw [HL.out]; rfl, HB5.out⟩
      | true =>
      have GA1 := Aside0.mk hq; clear hq
      cases hq : decide ((s.s2.length : Int) = c.slots * (x.qs.length : Int)) with
      | false =>
        have hqq : ((s.s2.length : Int) == c.slots * (x.qs.length : Int)) = false := beq_eq_false_iff_ne.2 (of_decide_eq_false hq)
        have HL := Aside0.mk (show stateOk c x v s = false by rw [GR.out, hq]; simp)
        obtain ⟨c1, c2⟩ := lay (Below.refl _ _) HC5.out
        obtain ⟨i1, i2⟩ := lay (Below.refl _ _) HI5.out
        obtain ⟨s1, s2⟩ := lay (Below.refl _ _) HS5.out
        go_wp2
        go_ret
        exact ⟨by rw [HL.out]; rfl, HB5.out⟩
      | true =>
      have hqq2 : ((s.s2.length : Int) == c.slots * (x.qs.length : Int)) = true := beq_iff_eq.2 (of_decide_eq_true hq)
      have GE2 := Aside0.mk hq
      clear hq
      have hqr2 : decide ((s.s2.length : Int) = c.slots * (x.qs.length : Int)) = true := GE2.out
      obtain ⟨c1, c2⟩ := lay (Below.refl _ _) HC5.out
      obtain ⟨i1, i2⟩ := lay (Below.refl _ _) HI5.out
      obtain ⟨s1, s2⟩ := lay (Below.refl _ _) HS5.out
      go_wp2_with fail
      clear c1 c2 i1 i2 s1 s2
      go_at_call 50
      refine (spec_allIn _ S2 g2 s.s2 (Kd.C_below HS.out.2.2 HB5.out) (-1000000000) 1000000000).mono ?_
      rintro e w6 ⟨rfl, hb⟩
      have HB6 := Aside0.mk (bel_call HB5.out hb) ; have HC6 := Aside0.mk (blk_below HC5.out hb) ; have HI6 := Aside0.mk (blk_below HI5.out hb) ; have HS6 := Aside0.mk (blk_below HS5.out hb) ; clear hb
      cases hq : allIn s.s2 (-1000000000) 1000000000 with
      | false =>
        have HL := Aside0.mk (show stateOk c x v s = false by rw [GR.out, hq]; simp); clear hq
        obtain ⟨c1, c2⟩ := lay (Below.refl _ _) HC6.out
        obtain ⟨i1, i2⟩ := lay (Below.refl _ _) HI6.out
        obtain ⟨s1, s2⟩ := lay (Below.refl _ _) HS6.out
        go_wp2
        go_ret
        exact ⟨by rw [HL.out]; rfl, HB6.out⟩
      | true =>
      have GA2 := Aside0.mk hq; clear hq
      have HL := Aside0.mk (show stateOk c x v s = true by rw [GR.out, GP.out, GPL.out, GT.out, GD.out, GL.out, GE0.out, GA0.out, GE1.out, GA1.out, GE2.out, GA2.out]; rfl)
      obtain ⟨c1, c2⟩ := lay (Below.refl _ _) HC6.out
      obtain ⟨i1, i2⟩ := lay (Below.refl _ _) HI6.out
      obtain ⟨s1, s2⟩ := lay (Below.refl _ _) HS6.out
      go_wp2
      go_ret
      exact ⟨by rw [HL.out]; rfl, HB6.out⟩
  have p6 : decide (0 < s.pos) = false := decide_eq_false hp
  have HPL := Aside0.mk (show placeOk x v s.pos s.node = decide (s.node = v) by unfold placeOk; rw [if_neg hp]); clear hp
  by_cases hv : s.node = v
  rotate_left
  · have p7 : (s.node == v) = false := beq_eq_false_iff_ne.2 hv
    have p8 : decide (s.node = v) = false := decide_eq_false hv
    have GPL := Aside0.mk (show placeOk x v s.pos s.node = false by rw [HPL.out]; exact p8); clear hv
    have HL := Aside0.mk (show stateOk c x v s = false by rw [GR.out, GPL.out]; simp)
    obtain ⟨c1, c2⟩ := lay (Below.refl _ _) HC2.out
    obtain ⟨i1, i2⟩ := lay (Below.refl _ _) HI2.out
    obtain ⟨s1, s2⟩ := lay (Below.refl _ _) HS2.out
    go_wp2_with fail
    clear c1 c2 i1 i2 s1 s2
    go_at_call 47
    refine (spec_l1In _ _ _ _).mono ?_
    rintro e w' ⟨rfl, rfl⟩
    cases hq : inB s.pos 0 4096 with
    | false =>
      clear hq
      obtain ⟨c1, c2⟩ := lay (Below.refl _ _) HC2.out
      obtain ⟨i1, i2⟩ := lay (Below.refl _ _) HI2.out
      obtain ⟨s1, s2⟩ := lay (Below.refl _ _) HS2.out
      go_wp2
      go_ret
      exact ⟨by rw [HL.out]; rfl, HB2.out⟩
    | true =>
      clear hq
      obtain ⟨c1, c2⟩ := lay (Below.refl _ _) HC2.out
      obtain ⟨i1, i2⟩ := lay (Below.refl _ _) HI2.out
      obtain ⟨s1, s2⟩ := lay (Below.refl _ _) HS2.out
      go_wp2
      go_ret
      exact ⟨by rw [HL.out]; rfl, HB2.out⟩
  have p7 : (s.node == v) = true := beq_iff_eq.2 hv
  have p8 : decide (s.node = v) = true := decide_eq_true hv
  have GPL := Aside0.mk (show placeOk x v s.pos s.node = true by rw [HPL.out]; exact p8); have HVV := Aside0.mk hv; clear hv
  obtain ⟨c1, c2⟩ := lay (Below.refl _ _) HC2.out
  obtain ⟨i1, i2⟩ := lay (Below.refl _ _) HI2.out
  obtain ⟨s1, s2⟩ := lay (Below.refl _ _) HS2.out
  go_wp2_with fail
  clear c1 c2 i1 i2 s1 s2
  go_at_call 47
  refine (spec_l1In _ _ _ _).mono ?_
  rintro e w' ⟨rfl, rfl⟩
  cases hq : inB s.pos 0 4096 with
  | false =>
    have HL := Aside0.mk (show stateOk c x v s = false by rw [GR.out, hq]; simp); clear hq
    obtain ⟨c1, c2⟩ := lay (Below.refl _ _) HC2.out
    obtain ⟨i1, i2⟩ := lay (Below.refl _ _) HI2.out
    obtain ⟨s1, s2⟩ := lay (Below.refl _ _) HS2.out
    go_wp2
    go_ret
    exact ⟨by rw [HL.out]; rfl, HB2.out⟩
  | true =>
  have GP := Aside0.mk hq; clear hq
  obtain ⟨c1, c2⟩ := lay (Below.refl _ _) HC2.out
  obtain ⟨i1, i2⟩ := lay (Below.refl _ _) HI2.out
  obtain ⟨s1, s2⟩ := lay (Below.refl _ _) HS2.out
  go_wp2_with fail
  clear c1 c2 i1 i2 s1 s2
  go_at_call 47
  refine (spec_l1In _ _ _ _).mono ?_
  rintro e w' ⟨rfl, rfl⟩
  cases hq : inB s.time 0 1000000000 with
  | false =>
    have HL := Aside0.mk (show stateOk c x v s = false by rw [GR.out, hq]; simp); clear hq
    obtain ⟨c1, c2⟩ := lay (Below.refl _ _) HC2.out
    obtain ⟨i1, i2⟩ := lay (Below.refl _ _) HI2.out
    obtain ⟨s1, s2⟩ := lay (Below.refl _ _) HS2.out
    go_wp2
    go_ret
    exact ⟨by rw [HL.out]; rfl, HB2.out⟩
  | true =>
  have GT := Aside0.mk hq; clear hq
  obtain ⟨c1, c2⟩ := lay (Below.refl _ _) HC2.out
  obtain ⟨i1, i2⟩ := lay (Below.refl _ _) HI2.out
  obtain ⟨s1, s2⟩ := lay (Below.refl _ _) HS2.out
  go_wp2_with fail
  clear c1 c2 i1 i2 s1 s2
  go_at_call 47
  refine (spec_l1In _ _ _ _).mono ?_
  rintro e w' ⟨rfl, rfl⟩
  cases hq : inB s.dist 0 1000000000 with
  | false =>
    have HL := Aside0.mk (show stateOk c x v s = false by rw [GR.out, hq]; simp); clear hq
    obtain ⟨c1, c2⟩ := lay (Below.refl _ _) HC2.out
    obtain ⟨i1, i2⟩ := lay (Below.refl _ _) HI2.out
    obtain ⟨s1, s2⟩ := lay (Below.refl _ _) HS2.out
    go_wp2
    go_ret
    exact ⟨by rw [HL.out]; rfl, HB2.out⟩
  | true =>
  have GD := Aside0.mk hq; clear hq
  obtain ⟨c1, c2⟩ := lay (Below.refl _ _) HC2.out
  obtain ⟨i1, i2⟩ := lay (Below.refl _ _) HI2.out
  obtain ⟨s1, s2⟩ := lay (Below.refl _ _) HS2.out
  go_wp2_with fail
  clear c1 c2 i1 i2 s1 s2
  go_at_call 47
  refine (spec_l1In _ _ _ _).mono ?_
  rintro e w' ⟨rfl, rfl⟩
  cases hq : inB s.load (-1000000000) 1000000000 with
  | false =>
    have HL := Aside0.mk (show stateOk c x v s = false by rw [GR.out, hq]; simp); clear hq
    obtain ⟨c1, c2⟩ := lay (Below.refl _ _) HC2.out
    obtain ⟨i1, i2⟩ := lay (Below.refl _ _) HI2.out
    obtain ⟨s1, s2⟩ := lay (Below.refl _ _) HS2.out
    go_wp2
    go_ret
    exact ⟨by rw [HL.out]; rfl, HB2.out⟩
  | true =>
  have GL := Aside0.mk hq; clear hq
  cases hq : decide ((s.s0.length : Int) = (x.qs.length : Int)) with
  | false =>
    have hqq : ((s.s0.length : Int) == (x.qs.length : Int)) = false := beq_eq_false_iff_ne.2 (of_decide_eq_false hq)
    have HL := Aside0.mk (show stateOk c x v s = false by rw [GR.out, hq]; simp)
    obtain ⟨c1, c2⟩ := lay (Below.refl _ _) HC2.out
    obtain ⟨i1, i2⟩ := lay (Below.refl _ _) HI2.out
    obtain ⟨s1, s2⟩ := lay (Below.refl _ _) HS2.out
    go_wp2
    go_ret
    exact ⟨by rw [HL.out]; rfl, HB2.out⟩
  | true =>
  have hqq0 : ((s.s0.length : Int) == (x.qs.length : Int)) = true := beq_iff_eq.2 (of_decide_eq_true hq)
  have GE0 := Aside0.mk hq
  clear hq
  have hqr0 : decide ((s.s0.length : Int) = (x.qs.length : Int)) = true := GE0.out
  obtain ⟨c1, c2⟩ := lay (Below.refl _ _) HC2.out
  obtain ⟨i1, i2⟩ := lay (Below.refl _ _) HI2.out
  obtain ⟨s1, s2⟩ := lay (Below.refl _ _) HS2.out
  go_wp2_with fail
  clear c1 c2 i1 i2 s1 s2
  go_at_call 50
  refine (spec_allIn _ S0 g0 s.s0 (Kd.C_below HS.out.1 HB2.out) 0 2).mono ?_
  rintro e w3 ⟨rfl, hb⟩
  have HB3 := Aside0.mk (bel_call HB2.out hb) ; have HC3 := Aside0.mk (blk_below HC2.out hb) ; have HI3 := Aside0.mk (blk_below HI2.out hb) ; have HS3 := Aside0.mk (blk_below HS2.out hb) ; clear hb
  cases hq : allIn s.s0 0 2 with
  | false =>
    have HL := Aside0.mk (show stateOk c x v s = false by rw [GR.out, hq]; simp); clear hq
    obtain ⟨c1, c2⟩ := lay (Below.refl _ _) HC3.out
    obtain ⟨i1, i2⟩ := lay (Below.refl _ _) HI3.out
    obtain ⟨s1, s2⟩ := lay (Below.refl _ _) HS3.out
    go_wp2
    go_ret
    exact ⟨by rw [HL.out]; rfl, HB3.out⟩
  | true =>
  have GA0 := Aside0.mk hq; clear hq
  cases hq : decide ((s.s1.length : Int) = c.regs) with
  | false =>
    have hqq : ((s.s1.length : Int) == c.regs) = false := beq_eq_false_iff_ne.2 (of_decide_eq_false hq)
    have HL := Aside0.mk (show stateOk c x v s = false by rw [GR.out, hq]; simp)
    obtain ⟨c1, c2⟩ := lay (Below.refl _ _) HC3.out
    obtain ⟨i1, i2⟩ := lay (Below.refl _ _) HI3.out
    obtain ⟨s1, s2⟩ := lay (Below.refl _ _) HS3.out
    go_wp2
    go_ret
    exact ⟨by rw [HL.out]; rfl, HB3.out⟩
  | true =>
  have hqq1 : ((s.s1.length : Int) == c.regs) = true := beq_iff_eq.2 (of_decide_eq_true hq)
  have GE1 := Aside0.mk hq
  clear hq
  have hqr1 : decide ((s.s1.length : Int) = c.regs) = true := GE1.out
  obtain ⟨c1, c2⟩ := lay (Below.refl _ _) HC3.out
  obtain ⟨i1, i2⟩ := lay (Below.refl _ _) HI3.out
  obtain ⟨s1, s2⟩ := lay (Below.refl _ _) HS3.out
  go_wp2_with fail
  clear c1 c2 i1 i2 s1 s2
  go_at_call 50
  refine (spec_allIn _ S1 g1 s.s1 (Kd.C_below HS.out.2.1 HB3.out) (-1000000000) 1000000000).mono ?_
  rintro e w4 ⟨rfl, hb⟩
  have HB4 := Aside0.mk (bel_call HB3.out hb) ; have HC4 := Aside0.mk (blk_below HC3.out hb) ; have HI4 := Aside0.mk (blk_below HI3.out hb) ; have HS4 := Aside0.mk (blk_below HS3.out hb) ; clear hb
  cases hq : allIn s.s1 (-1000000000) 1000000000 with
  | false =>
    have HL := Aside0.mk (show stateOk c x v s = false by rw [GR.out, hq]; simp); clear hq
    obtain ⟨c1, c2⟩ := lay (Below.refl _ _) HC4.out
    obtain ⟨i1, i2⟩ := lay (Below.refl _ _) HI4.out
    obtain ⟨s1, s2⟩ := lay (Below.refl _ _) HS4.out
    go_wp2
    go_ret
    exact ⟨by rw [HL.out]; rfl, HB4.out⟩
  | true =>
  have GA1 := Aside0.mk hq; clear hq
  cases hq : decide ((s.s2.length : Int) = c.slots * (x.qs.length : Int)) with
  | false =>
    have hqq : ((s.s2.length : Int) == c.slots * (x.qs.length : Int)) = false := beq_eq_false_iff_ne.2 (of_decide_eq_false hq)
    have HL := Aside0.mk (show stateOk c x v s = false by rw [GR.out, hq]; simp)
    obtain ⟨c1, c2⟩ := lay (Below.refl _ _) HC4.out
    obtain ⟨i1, i2⟩ := lay (Below.refl _ _) HI4.out
    obtain ⟨s1, s2⟩ := lay (Below.refl _ _) HS4.out
    go_wp2
    go_ret
    exact ⟨by rw [HL.out]; rfl, HB4.out⟩
  | true =>
  have hqq2 : ((s.s2.length : Int) == c.slots * (x.qs.length : Int)) = true := beq_iff_eq.2 (of_decide_eq_true hq)
  have GE2 := Aside0.mk hq
  clear hq
  have hqr2 : decide ((s.s2.length : Int) = c.slots * (x.qs.length : Int)) = true := GE2.out
  obtain ⟨c1, c2⟩ := lay (Below.refl _ _) HC4.out
  obtain ⟨i1, i2⟩ := lay (Below.refl _ _) HI4.out
  obtain ⟨s1, s2⟩ := lay (Below.refl _ _) HS4.out
  go_wp2_with fail
  clear c1 c2 i1 i2 s1 s2
  go_at_call 50
  refine (spec_allIn _ S2 g2 s.s2 (Kd.C_below HS.out.2.2 HB4.out) (-1000000000) 1000000000).mono ?_
  rintro e w5 ⟨rfl, hb⟩
  have HB5 := Aside0.mk (bel_call HB4.out hb) ; have HC5 := Aside0.mk (blk_below HC4.out hb) ; have HI5 := Aside0.mk (blk_below HI4.out hb) ; have HS5 := Aside0.mk (blk_below HS4.out hb) ; clear hb
  cases hq : allIn s.s2 (-1000000000) 1000000000 with
  | false =>
    have HL := Aside0.mk (show stateOk c x v s = false by rw [GR.out, hq]; simp); clear hq
    obtain ⟨c1, c2⟩ := lay (Below.refl _ _) HC5.out
    obtain ⟨i1, i2⟩ := lay (Below.refl _ _) HI5.out
    obtain ⟨s1, s2⟩ := lay (Below.refl _ _) HS5.out
    go_wp2
    go_ret
    exact ⟨by rw [HL.out]; rfl, HB5.out⟩
  | true =>
  have GA2 := Aside0.mk hq; clear hq
  have HL := Aside0.mk (show stateOk c x v s = true by rw [GR.out, GP.out, GPL.out, GT.out, GD.out, GL.out, GE0.out, GA0.out, GE1.out, GA1.out, GE2.out, GA2.out]; rfl)
  obtain ⟨c1, c2⟩ := lay (Below.refl _ _) HC5.out
  obtain ⟨i1, i2⟩ := lay (Below.refl _ _) HI5.out
  obtain ⟨s1, s2⟩ := lay (Below.refl _ _) HS5.out
  go_wp2
  go_ret
  exact ⟨by rw [HL.out]; rfl, HB5.out⟩
end
end Go.Proofs.YtlhpbpkefkabgaaGreat.L1
