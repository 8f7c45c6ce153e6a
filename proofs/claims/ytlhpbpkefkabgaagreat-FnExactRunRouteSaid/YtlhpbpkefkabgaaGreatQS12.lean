/- ValidState of the reference. ValidState of the program. The law FnExactValidCode: what came in is opened, and the law's own walk. What a route costs, as the program tells it. The law FnExactCost's own walk. The law FnExactValidState's own walk; a state that came in is opened. -/
import Derived.Test.YtlhpbpkefkabgaaGreatQS11
import Derived.Test.YtlhpbpkefkabgaaGreatQS7
namespace Go.Proofs.YtlhpbpkefkabgaaGreat.L1
open Go.RowKit Go.Proofs.YtlhpbpkefkabgaaGreatW.PrintWords Go.Proofs.YtlhpbpkefkabgaaGreat.B
set_option linter.unusedVariables false
set_option linter.unusedSimpArgs false
attribute [local go_sem] mk_cell mk_frozen
theorem Code.valid_slots {c : Code} (h : c.valid = true) : inB c.slots 0 100 = true := by
  unfold Code.valid at h; simp only [Bool.and_eq_true] at h; exact h.1.1.1.2
theorem mul_in {a : Int} {n : Nat} (h0 : 0 ≤ a) (h1 : a ≤ 100) (hn : n ≤ 1000) : IntKind.i64.wrap (a * (n : Int)) = a * (n : Int) := by
  have h2 : a * (n : Int) ≤ 100 * 1000 := Int.mul_le_mul h1 (by omega) (by omega) (by omega)
  have h3 : 0 ≤ a * (n : Int) := Int.mul_nonneg h0 (by omega)
  exact IntWalk.i64_in _ (by omega)
section
variable (w : World)
set_option maxRecDepth 100000 in
set_option maxHeartbeats 4000000 in
theorem spec_ValidState (u v1 t : Value) (c : Code) (hc : ReadCode w u c) (x : Inst) (hx : ReadInst w v1 x) (v : Int) (s : St) (hs : ReadState w t s) (hn : s.small) : Calls Tryz.prog 26 #[u, v1, .int .i64 v, t] w fun e w' => e = .returned (.bool (stateOk c x v s)) ∧ Below w.heap.size w w' := by
  have HX := sA (And.intro hc (And.intro hx hs))
  obtain ⟨A0, c0, A1, c1, A2, c2, rfl, a0, a1, a2⟩ := hc
  obtain ⟨B0, d0, B1, d1, B2, d2, rfl, b0, b1, b2⟩ := hx
  obtain ⟨S0, g0, S1, g1, S2, g2, rfl, s0, s1, s2⟩ := hs
  have HS := sA (And.intro s0 (And.intro s1 s2))
  clear a0 a1 a2 b0 b1 b2 s0 s1 s2
  have HN := sA hn; clear hn
  have HB0 := sA (bA (bA (bA (Below.refl w.heap.size w) (.cells #[.int .i64 c.regs, .int .i64 c.slots, .slice A0 c.b0.length c0, .slice A1 c.b1.length c1, .slice A2 c.b2.length c2] 41)) (.cells #[.slice B0 x.vs.length d0, .slice B1 x.qs.length d1, .slice B2 x.rs.length d2] 47)) (.cells #[.int .i64 s.pos, .int .i64 s.rule, .int .i64 s.node, .int .i64 s.time, .int .i64 s.dist, .int .i64 s.load, .slice S0 s.s0.length g0, .slice S1 s.s1.length g1, .slice S2 s.s2.length g2] 49))
  have h := al_new w (.cells #[.int .i64 c.regs, .int .i64 c.slots, .slice A0 c.b0.length c0, .slice A1 c.b1.length c1, .slice A2 c.b2.length c2] 41)
  replace h := blk_box h (.cells #[.slice B0 x.vs.length d0, .slice B1 x.qs.length d1, .slice B2 x.rs.length d2] 47)
  replace h := blk_box h (.cells #[.int .i64 s.pos, .int .i64 s.rule, .int .i64 s.node, .int .i64 s.time, .int .i64 s.dist, .int .i64 s.load, .slice S0 s.s0.length g0, .slice S1 s.s1.length g1, .slice S2 s.s2.length g2] 49)
  have HC0 := sA h; clear h
  have h := al_new (w.alloc (.cells #[.int .i64 c.regs, .int .i64 c.slots, .slice A0 c.b0.length c0, .slice A1 c.b1.length c1, .slice A2 c.b2.length c2] 41)) (.cells #[.slice B0 x.vs.length d0, .slice B1 x.qs.length d1, .slice B2 x.rs.length d2] 47)
  simp only [al_size] at h
  replace h := blk_box h (.cells #[.int .i64 s.pos, .int .i64 s.rule, .int .i64 s.node, .int .i64 s.time, .int .i64 s.dist, .int .i64 s.load, .slice S0 s.s0.length g0, .slice S1 s.s1.length g1, .slice S2 s.s2.length g2] 49)
  have HI0 := sA h; clear h
  have h := al_new ((w.alloc (.cells #[.int .i64 c.regs, .int .i64 c.slots, .slice A0 c.b0.length c0, .slice A1 c.b1.length c1, .slice A2 c.b2.length c2] 41)).alloc (.cells #[.slice B0 x.vs.length d0, .slice B1 x.qs.length d1, .slice B2 x.rs.length d2] 47)) (.cells #[.int .i64 s.pos, .int .i64 s.rule, .int .i64 s.node, .int .i64 s.time, .int .i64 s.dist, .int .i64 s.load, .slice S0 s.s0.length g0, .slice S1 s.s1.length g1, .slice S2 s.s2.length g2] 49)
  simp only [al_size] at h
  have HS0 := sA h; clear h
  go_enter Tryz.func26, Tryz.ntmps26
  go_wp2_with fail
  go_at_call 40
  refine (spec_ValidCode _ _ c (HX.out.1.below HB0.out)).mono ?_
  rintro e w1 ⟨rfl, hb⟩
  have HB1 := sA (bC HB0.out hb) ; have HC1 := sA (bB HC0.out hb) ; have HI1 := sA (bB HI0.out hb) ; have HS1 := sA (bB HS0.out hb) ; clear hb
  cases hq : c.valid with
  | false =>
    have HL := sA (show stateOk c x v s = false by unfold stateOk askOk; rw [hq]; rfl); clear hq
    obtain ⟨c1, c2⟩ := lay0 HC1.out
    obtain ⟨i1, i2⟩ := lay0 HI1.out
    obtain ⟨s1, s2⟩ := lay0 HS1.out
    go_wp2
    go_ret
    exact ⟨by rw [HL.out]; rfl, HB1.out⟩
  | true =>
  have G0 := sA hq; clear hq
  obtain ⟨c1, c2⟩ := lay0 HC1.out
  obtain ⟨i1, i2⟩ := lay0 HI1.out
  obtain ⟨s1, s2⟩ := lay0 HS1.out
  go_wp2_with fail
  clear c1 c2 i1 i2 s1 s2
  go_at_call 46
  refine (spec_validInst _ _ x (HX.out.2.1.below HB1.out)).mono ?_
  rintro e w2 ⟨rfl, hb⟩
  have HB2 := sA (bC HB1.out hb) ; have HC2 := sA (bB HC1.out hb) ; have HI2 := sA (bB HI1.out hb) ; have HS2 := sA (bB HS1.out hb) ; clear hb
  cases hq : x.valid with
  | false =>
    have HL := sA (show stateOk c x v s = false by unfold stateOk askOk; rw [hq]; simp); clear hq
    obtain ⟨c1, c2⟩ := lay0 HC2.out
    obtain ⟨i1, i2⟩ := lay0 HI2.out
    obtain ⟨s1, s2⟩ := lay0 HS2.out
    go_wp2
    go_ret
    exact ⟨by rw [HL.out]; rfl, HB2.out⟩
  | true =>
  have G1 := sA hq; clear hq
  obtain ⟨f0, f1, f2⟩ := Inst.few_of G1.out
  have HS1 := sA (show x.small from ⟨by omega, by omega, by omega⟩)
  have q0 : IntKind.i64.wrap ((x.vs.length : Int) - 1) = (x.vs.length : Int) - 1 := IntWalk.i64_in _ (by omega)
  clear f0 f1 f2
  obtain ⟨c1, c2⟩ := lay0 HC2.out
  obtain ⟨i1, i2⟩ := lay0 HI2.out
  obtain ⟨s1, s2⟩ := lay0 HS2.out
  go_wp2_with fail
  clear c1 c2 i1 i2 s1 s2
  go_at_call 47
  refine (spec_l1In _ _ _ _).mono ?_
  rintro e w' ⟨rfl, rfl⟩
  cases hq : inB v 0 (x.vs.length - 1) with
  | false =>
    have HL := sA (show stateOk c x v s = false by unfold stateOk askOk; rw [hq]; simp); clear hq
    obtain ⟨c1, c2⟩ := lay0 HC2.out
    obtain ⟨i1, i2⟩ := lay0 HI2.out
    obtain ⟨s1, s2⟩ := lay0 HS2.out
    go_wp2
    go_ret
    exact ⟨by rw [HL.out]; rfl, HB2.out⟩
  | true =>
  have G2 := sA hq; clear hq
  have GA := sA (show stateOk c x v s = s.ok c x v by unfold stateOk askOk; rw [G0.out, G1.out, G2.out]; rfl)
  by_cases hr : 0 ≤ s.rule
  · have p0 : decide (0 ≤ s.rule) = true := decide_eq_true hr
    have GR := sA (show stateOk c x v s = (s.bare && inB s.pos 0 4097 && decide (s.rule ≤ 100)) by rw [GA.out]; unfold St.ok; rw [if_pos hr])
    clear hr
    obtain ⟨c1, c2⟩ := lay0 HC2.out
    obtain ⟨i1, i2⟩ := lay0 HI2.out
    obtain ⟨s1, s2⟩ := lay0 HS2.out
    go_wp2_with fail
    clear c1 c2 i1 i2 s1 s2
    go_at_call 48
    refine (spec_bare _ _ s (HX.out.2.2.below HB2.out)).mono ?_
    rintro e w3 ⟨rfl, hb⟩
    have HB3 := sA (bC HB2.out hb) ; have HC3 := sA (bB HC2.out hb) ; have HI3 := sA (bB HI2.out hb) ; have HS3 := sA (bB HS2.out hb) ; clear hb
    cases hq : s.bare with
    | false =>
      have HL := sA (show stateOk c x v s = false by rw [GR.out, hq]; simp); clear hq
      obtain ⟨c1, c2⟩ := lay0 HC3.out
      obtain ⟨i1, i2⟩ := lay0 HI3.out
      obtain ⟨s1, s2⟩ := lay0 HS3.out
      go_wp2
      go_ret
      exact ⟨by rw [HL.out]; rfl, HB3.out⟩
    | true =>
    have G3 := sA hq; clear hq
    obtain ⟨c1, c2⟩ := lay0 HC3.out
    obtain ⟨i1, i2⟩ := lay0 HI3.out
    obtain ⟨s1, s2⟩ := lay0 HS3.out
    go_wp2_with fail
    clear c1 c2 i1 i2 s1 s2
    go_at_call 47
    refine (spec_l1In _ _ _ _).mono ?_
    rintro e w' ⟨rfl, rfl⟩
    cases hq : inB s.pos 0 4097 with
    | false =>
      have HL := sA (show stateOk c x v s = false by rw [GR.out, hq]; simp); clear hq
      obtain ⟨c1, c2⟩ := lay0 HC3.out
      obtain ⟨i1, i2⟩ := lay0 HI3.out
      obtain ⟨s1, s2⟩ := lay0 HS3.out
      go_wp2
      go_ret
      exact ⟨by rw [HL.out]; rfl, HB3.out⟩
    | true =>
    have G4 := sA hq; clear hq
    cases hq : decide (s.rule ≤ 100) with
    | false =>
      have HL := sA (show stateOk c x v s = false by rw [GR.out, hq]; simp)
      obtain ⟨c1, c2⟩ := lay0 HC3.out
      obtain ⟨i1, i2⟩ := lay0 HI3.out
      obtain ⟨s1, s2⟩ := lay0 HS3.out
      go_wp2
      go_ret
      exact ⟨by rw [HL.out]; rfl, HB3.out⟩
    | true =>
    have G5 := sA hq
    have HL := sA (show stateOk c x v s = true by rw [GR.out, G3.out, G4.out, G5.out]; rfl)
    obtain ⟨c1, c2⟩ := lay0 HC3.out
    obtain ⟨i1, i2⟩ := lay0 HI3.out
    obtain ⟨s1, s2⟩ := lay0 HS3.out
    go_wp2
    go_ret
    exact ⟨by rw [HL.out]; rfl, HB3.out⟩
  have p0 : decide (0 ≤ s.rule) = false := decide_eq_false hr
  by_cases hm : s.rule = -1
  rotate_left
  · have p1 : (s.rule == -1) = false := beq_eq_false_iff_ne.2 hm
    have p2 : decide (s.rule = -1) = false := decide_eq_false hm
    have p3 : (s.rule != -1) = true := by simp [hm]
    have HL := sA (show stateOk c x v s = false by rw [GA.out]; unfold St.ok; rw [if_neg hr, if_pos hm]); clear hr
    obtain ⟨c1, c2⟩ := lay0 HC2.out
    obtain ⟨i1, i2⟩ := lay0 HI2.out
    obtain ⟨s1, s2⟩ := lay0 HS2.out
    go_wp2
    go_ret
    exact ⟨by rw [HL.out]; rfl, HB2.out⟩
  have p1 : (s.rule == -1) = true := beq_iff_eq.2 hm
  have p2 : decide (s.rule = -1) = true := decide_eq_true hm
  have p3 : (s.rule != -1) = false := by simp [hm]
  by_cases hp : s.pos = -1
  · have p4 : (s.pos == -1) = true := beq_iff_eq.2 hp
    have p5 : decide (s.pos = -1) = true := decide_eq_true hp
    have GR := sA (show stateOk c x v s = s.bare by rw [GA.out]; unfold St.ok; rw [if_neg hr, if_neg (by rw [hm]; simp), if_pos hp])
    clear hr
    have HM := sA hm; have HP := sA hp; clear hm hp
    obtain ⟨c1, c2⟩ := lay0 HC2.out
    obtain ⟨i1, i2⟩ := lay0 HI2.out
    obtain ⟨s1, s2⟩ := lay0 HS2.out
    go_wp2_with fail
    clear c1 c2 i1 i2 s1 s2
    go_at_call 48
    refine (spec_bare _ _ s (HX.out.2.2.below HB2.out)).mono ?_
    rintro e w3 ⟨rfl, hb⟩
    have HB3 := sA (bC HB2.out hb) ; have HC3 := sA (bB HC2.out hb) ; have HI3 := sA (bB HI2.out hb) ; have HS3 := sA (bB HS2.out hb) ; clear hb
    have HL := GR
    obtain ⟨c1, c2⟩ := lay0 HC3.out
    obtain ⟨i1, i2⟩ := lay0 HI3.out
    obtain ⟨s1, s2⟩ := lay0 HS3.out
    go_wp2
    go_ret
    exact ⟨by rw [HL.out]; rfl, HB3.out⟩
  have p4 : (s.pos == -1) = false := beq_eq_false_iff_ne.2 hp
  have p5 : decide (s.pos = -1) = false := decide_eq_false hp
  have GR := sA (show stateOk c x v s = s.runOk c x v by rw [GA.out]; unfold St.ok; rw [if_neg hr, if_neg (by rw [hm]; simp), if_neg hp])
  have HM := sA hm; have HP := sA hp; clear hm hp hr
  have GR2 := sA (show stateOk c x v s = (inB s.pos 0 4096 && placeOk x v s.pos s.node && inB s.time 0 1000000000 && inB s.dist 0 1000000000 && inB s.load (-1000000000) 1000000000 && decide ((s.s0.length : Int) = x.qs.length) && allIn s.s0 0 2 && decide ((s.s1.length : Int) = c.regs) && allIn s.s1 (-1000000000) 1000000000 && decide ((s.s2.length : Int) = c.slots * x.qs.length) && allIn s.s2 (-1000000000) 1000000000) from GR.out); clear GR; have GR := GR2; clear GR2
  have hsl : 0 ≤ c.slots ∧ c.slots ≤ 100 := (inB_iff _ _ _).1 (Code.valid_slots G0.out)
  have q1 : IntKind.i64.wrap (c.slots * (x.qs.length : Int)) = c.slots * (x.qs.length : Int) := mul_in hsl.1 hsl.2 (by have := Inst.few_of G1.out; omega)
  clear hsl
  by_cases hp : 0 < s.pos
  · have p6 : decide (0 < s.pos) = true := decide_eq_true hp
    have HPL := sA (show placeOk x v s.pos s.node = x.stop s.node by unfold placeOk; rw [if_pos hp]); clear hp
    obtain ⟨c1, c2⟩ := lay0 HC2.out
    obtain ⟨i1, i2⟩ := lay0 HI2.out
    obtain ⟨s1, s2⟩ := lay0 HS2.out
    go_wp2_with fail
    clear c1 c2 i1 i2 s1 s2
    go_at_call 49
    refine (spec_stop _ _ x (HX.out.2.1.below HB2.out) HS1.out s.node).mono ?_
    rintro e w3 ⟨rfl, hb⟩
    have HB3 := sA (bC HB2.out hb) ; have HC3 := sA (bB HC2.out hb) ; have HI3 := sA (bB HI2.out hb) ; have HS3 := sA (bB HS2.out hb) ; clear hb
    rw [show inB s.node x.vs.length (x.nodes - 1) = x.stop s.node from rfl]
    cases hst : x.stop s.node with
    | false =>
      have GPL := sA (show placeOk x v s.pos s.node = false by rw [HPL.out]; exact hst); clear hst
      have HL := sA (show stateOk c x v s = false by rw [GR.out, GPL.out]; simp)
      obtain ⟨c1, c2⟩ := lay0 HC3.out
      obtain ⟨i1, i2⟩ := lay0 HI3.out
      obtain ⟨s1, s2⟩ := lay0 HS3.out
      go_wp2_with fail
      clear c1 c2 i1 i2 s1 s2
      go_at_call 47
      refine (spec_l1In _ _ _ _).mono ?_
      rintro e w' ⟨rfl, rfl⟩
      cases hq : inB s.pos 0 4096 with
      | false =>
        clear hq
        obtain ⟨c1, c2⟩ := lay0 HC3.out
        obtain ⟨i1, i2⟩ := lay0 HI3.out
        obtain ⟨s1, s2⟩ := lay0 HS3.out
        go_wp2
        go_ret
        exact ⟨by rw [HL.out]; rfl, HB3.out⟩
      | true =>
        clear hq
        obtain ⟨c1, c2⟩ := lay0 HC3.out
        obtain ⟨i1, i2⟩ := lay0 HI3.out
        obtain ⟨s1, s2⟩ := lay0 HS3.out
        go_wp2
        go_ret
        exact ⟨by rw [HL.out]; rfl, HB3.out⟩
    | true =>
      have GPL := sA (show placeOk x v s.pos s.node = true by rw [HPL.out]; exact hst); clear hst
      obtain ⟨c1, c2⟩ := lay0 HC3.out
      obtain ⟨i1, i2⟩ := lay0 HI3.out
      obtain ⟨s1, s2⟩ := lay0 HS3.out
      go_wp2_with fail
      clear c1 c2 i1 i2 s1 s2
      go_at_call 47
      refine (spec_l1In _ _ _ _).mono ?_
      rintro e w' ⟨rfl, rfl⟩
      cases hq : inB s.pos 0 4096 with
      | false =>
        have HL := sA (show stateOk c x v s = false by rw [GR.out, hq]; simp); clear hq
        obtain ⟨c1, c2⟩ := lay0 HC3.out
        obtain ⟨i1, i2⟩ := lay0 HI3.out
        obtain ⟨s1, s2⟩ := lay0 HS3.out
        go_wp2
        go_ret
        exact ⟨by rw [HL.out]; rfl, HB3.out⟩
      | true =>
      have GP := sA hq; clear hq
      obtain ⟨c1, c2⟩ := lay0 HC3.out
      obtain ⟨i1, i2⟩ := lay0 HI3.out
      obtain ⟨s1, s2⟩ := lay0 HS3.out
      go_wp2_with fail
      clear c1 c2 i1 i2 s1 s2
      go_at_call 47
      refine (spec_l1In _ _ _ _).mono ?_
      rintro e w' ⟨rfl, rfl⟩
      cases hq : inB s.time 0 1000000000 with
      | false =>
        have HL := sA (show stateOk c x v s = false by rw [GR.out, hq]; simp); clear hq
        obtain ⟨c1, c2⟩ := lay0 HC3.out
        obtain ⟨i1, i2⟩ := lay0 HI3.out
        obtain ⟨s1, s2⟩ := lay0 HS3.out
        go_wp2
        go_ret
        exact ⟨by rw [HL.out]; rfl, HB3.out⟩
      | true =>
      have GT := sA hq; clear hq
      obtain ⟨c1, c2⟩ := lay0 HC3.out
      obtain ⟨i1, i2⟩ := lay0 HI3.out
      obtain ⟨s1, s2⟩ := lay0 HS3.out
      go_wp2_with fail
      clear c1 c2 i1 i2 s1 s2
      go_at_call 47
      refine (spec_l1In _ _ _ _).mono ?_
      rintro e w' ⟨rfl, rfl⟩
      cases hq : inB s.dist 0 1000000000 with
      | false =>
        have HL := sA (show stateOk c x v s = false by rw [GR.out, hq]; simp); clear hq
        obtain ⟨c1, c2⟩ := lay0 HC3.out
        obtain ⟨i1, i2⟩ := lay0 HI3.out
        obtain ⟨s1, s2⟩ := lay0 HS3.out
        go_wp2
        go_ret
        exact ⟨by rw [HL.out]; rfl, HB3.out⟩
      | true =>
      have GD := sA hq; clear hq
      obtain ⟨c1, c2⟩ := lay0 HC3.out
      obtain ⟨i1, i2⟩ := lay0 HI3.out
      obtain ⟨s1, s2⟩ := lay0 HS3.out
      go_wp2_with fail
      clear c1 c2 i1 i2 s1 s2
      go_at_call 47
      refine (spec_l1In _ _ _ _).mono ?_
      rintro e w' ⟨rfl, rfl⟩
      cases hq : inB s.load (-1000000000) 1000000000 with
      | false =>
        have HL := sA (show stateOk c x v s = false by rw [GR.out, hq]; simp); clear hq
        obtain ⟨c1, c2⟩ := lay0 HC3.out
        obtain ⟨i1, i2⟩ := lay0 HI3.out
        obtain ⟨s1, s2⟩ := lay0 HS3.out
        go_wp2
        go_ret
        exact ⟨by rw [HL.out]; rfl, HB3.out⟩
      | true =>
      have GL := sA hq; clear hq
      cases hq : decide ((s.s0.length : Int) = (x.qs.length : Int)) with
      | false =>
        have hqq : ((s.s0.length : Int) == (x.qs.length : Int)) = false := beq_eq_false_iff_ne.2 (of_decide_eq_false hq)
        have HL := sA (show stateOk c x v s = false by rw [GR.out, hq]; simp)
        obtain ⟨c1, c2⟩ := lay0 HC3.out
        obtain ⟨i1, i2⟩ := lay0 HI3.out
        obtain ⟨s1, s2⟩ := lay0 HS3.out
        go_wp2
        go_ret
        exact ⟨by rw [HL.out]; rfl, HB3.out⟩
      | true =>
      have hqq0 : ((s.s0.length : Int) == (x.qs.length : Int)) = true := beq_iff_eq.2 (of_decide_eq_true hq)
      have GE0 := sA hq
      clear hq
      have hqr0 : decide ((s.s0.length : Int) = (x.qs.length : Int)) = true := GE0.out
      obtain ⟨c1, c2⟩ := lay0 HC3.out
      obtain ⟨i1, i2⟩ := lay0 HI3.out
      obtain ⟨s1, s2⟩ := lay0 HS3.out
      go_wp2_with fail
      clear c1 c2 i1 i2 s1 s2
      go_at_call 50
      refine (spec_allIn _ S0 g0 s.s0 (Kd.C_below HS.out.1 HB3.out) 0 2).mono ?_
      rintro e w4 ⟨rfl, hb⟩
      have HB4 := sA (bC HB3.out hb) ; have HC4 := sA (bB HC3.out hb) ; have HI4 := sA (bB HI3.out hb) ; have HS4 := sA (bB HS3.out hb) ; clear hb
      cases hq : allIn s.s0 0 2 with
      | false =>
        have HL := sA (show stateOk c x v s = false by rw [GR.out, hq]; simp); clear hq
        obtain ⟨c1, c2⟩ := lay0 HC4.out
        obtain ⟨i1, i2⟩ := lay0 HI4.out
        obtain ⟨s1, s2⟩ := lay0 HS4.out
        go_wp2
        go_ret
        exact ⟨by rw [HL.out]; rfl, HB4.out⟩
      | true =>
      have GA0 := sA hq; clear hq
      cases hq : decide ((s.s1.length : Int) = c.regs) with
      | false =>
        have hqq : ((s.s1.length : Int) == c.regs) = false := beq_eq_false_iff_ne.2 (of_decide_eq_false hq)
        have HL := sA (show stateOk c x v s = false by rw [GR.out, hq]; simp)
        obtain ⟨c1, c2⟩ := lay0 HC4.out
        obtain ⟨i1, i2⟩ := lay0 HI4.out
        obtain ⟨s1, s2⟩ := lay0 HS4.out
        go_wp2
        go_ret
        exact ⟨by rw [HL.out]; rfl, HB4.out⟩
      | true =>
      have hqq1 : ((s.s1.length : Int) == c.regs) = true := beq_iff_eq.2 (of_decide_eq_true hq)
      have GE1 := sA hq
      clear hq
      have hqr1 : decide ((s.s1.length : Int) = c.regs) = true := GE1.out
      obtain ⟨c1, c2⟩ := lay0 HC4.out
      obtain ⟨i1, i2⟩ := lay0 HI4.out
      obtain ⟨s1, s2⟩ := lay0 HS4.out
      go_wp2_with fail
      clear c1 c2 i1 i2 s1 s2
      go_at_call 50
      refine (spec_allIn _ S1 g1 s.s1 (Kd.C_below HS.out.2.1 HB4.out) (-1000000000) 1000000000).mono ?_
      rintro e w5 ⟨rfl, hb⟩
      have HB5 := sA (bC HB4.out hb) ; have HC5 := sA (bB HC4.out hb) ; have HI5 := sA (bB HI4.out hb) ; have HS5 := sA (bB HS4.out hb) ; clear hb
      cases hq : allIn s.s1 (-1000000000) 1000000000 with
      | false =>
        have HL := sA (show stateOk c x v s = false by rw [GR.out, hq]; simp); clear hq
        obtain ⟨c1, c2⟩ := lay0 HC5.out
        obtain ⟨i1, i2⟩ := lay0 HI5.out
        obtain ⟨s1, s2⟩ := lay0 HS5.out
        go_wp2
        go_ret
        exact ⟨by rw [HL.out]; rfl, HB5.out⟩
      | true =>
      have GA1 := sA hq; clear hq
      cases hq : decide ((s.s2.length : Int) = c.slots * (x.qs.length : Int)) with
      | false =>
        have hqq : ((s.s2.length : Int) == c.slots * (x.qs.length : Int)) = false := beq_eq_false_iff_ne.2 (of_decide_eq_false hq)
        have HL := sA (show stateOk c x v s = false by rw [GR.out, hq]; simp)
        obtain ⟨c1, c2⟩ := lay0 HC5.out
        obtain ⟨i1, i2⟩ := lay0 HI5.out
        obtain ⟨s1, s2⟩ := lay0 HS5.out
        go_wp2
        go_ret
        exact ⟨by rw [HL.out]; rfl, HB5.out⟩
      | true =>
      have hqq2 : ((s.s2.length : Int) == c.slots * (x.qs.length : Int)) = true := beq_iff_eq.2 (of_decide_eq_true hq)
      have GE2 := sA hq
      clear hq
      have hqr2 : decide ((s.s2.length : Int) = c.slots * (x.qs.length : Int)) = true := GE2.out
      obtain ⟨c1, c2⟩ := lay0 HC5.out
      obtain ⟨i1, i2⟩ := lay0 HI5.out
      obtain ⟨s1, s2⟩ := lay0 HS5.out
      go_wp2_with fail
      clear c1 c2 i1 i2 s1 s2
      go_at_call 50
      refine (spec_allIn _ S2 g2 s.s2 (Kd.C_below HS.out.2.2 HB5.out) (-1000000000) 1000000000).mono ?_
      rintro e w6 ⟨rfl, hb⟩
      have HB6 := sA (bC HB5.out hb) ; have HC6 := sA (bB HC5.out hb) ; have HI6 := sA (bB HI5.out hb) ; have HS6 := sA (bB HS5.out hb) ; clear hb
      cases hq : allIn s.s2 (-1000000000) 1000000000 with
      | false =>
        have HL := sA (show stateOk c x v s = false by rw [GR.out, hq]; simp); clear hq
        obtain ⟨c1, c2⟩ := lay0 HC6.out
        obtain ⟨i1, i2⟩ := lay0 HI6.out
        obtain ⟨s1, s2⟩ := lay0 HS6.out
        go_wp2
        go_ret
        exact ⟨by rw [HL.out]; rfl, HB6.out⟩
      | true =>
      have GA2 := sA hq; clear hq
      have HL := sA (show stateOk c x v s = true by rw [GR.out, GP.out, GPL.out, GT.out, GD.out, GL.out, GE0.out, GA0.out, GE1.out, GA1.out, GE2.out, GA2.out]; rfl)
      obtain ⟨c1, c2⟩ := lay0 HC6.out
      obtain ⟨i1, i2⟩ := lay0 HI6.out
      obtain ⟨s1, s2⟩ := lay0 HS6.out
      go_wp2
      go_ret
      exact ⟨by rw [HL.out]; rfl, HB6.out⟩
  have p6 : decide (0 < s.pos) = false := decide_eq_false hp
  have HPL := sA (show placeOk x v s.pos s.node = decide (s.node = v) by unfold placeOk; rw [if_neg hp]); clear hp
  by_cases hv : s.node = v
  rotate_left
  · have p7 : (s.node == v) = false := beq_eq_false_iff_ne.2 hv
    have p8 : decide (s.node = v) = false := decide_eq_false hv
    have GPL := sA (show placeOk x v s.pos s.node = false by rw [HPL.out]; exact p8); clear hv
    have HL := sA (show stateOk c x v s = false by rw [GR.out, GPL.out]; simp)
    obtain ⟨c1, c2⟩ := lay0 HC2.out
    obtain ⟨i1, i2⟩ := lay0 HI2.out
    obtain ⟨s1, s2⟩ := lay0 HS2.out
    go_wp2_with fail
    clear c1 c2 i1 i2 s1 s2
    go_at_call 47
    refine (spec_l1In _ _ _ _).mono ?_
    rintro e w' ⟨rfl, rfl⟩
    cases hq : inB s.pos 0 4096 with
    | false =>
      clear hq
      obtain ⟨c1, c2⟩ := lay0 HC2.out
      obtain ⟨i1, i2⟩ := lay0 HI2.out
      obtain ⟨s1, s2⟩ := lay0 HS2.out
      go_wp2
      go_ret
      exact ⟨by rw [HL.out]; rfl, HB2.out⟩
    | true =>
      clear hq
      obtain ⟨c1, c2⟩ := lay0 HC2.out
      obtain ⟨i1, i2⟩ := lay0 HI2.out
      obtain ⟨s1, s2⟩ := lay0 HS2.out
      go_wp2
      go_ret
      exact ⟨by rw [HL.out]; rfl, HB2.out⟩
  have p7 : (s.node == v) = true := beq_iff_eq.2 hv
  have p8 : decide (s.node = v) = true := decide_eq_true hv
  have GPL := sA (show placeOk x v s.pos s.node = true by rw [HPL.out]; exact p8); have HVV := sA hv; clear hv
  obtain ⟨c1, c2⟩ := lay0 HC2.out
  obtain ⟨i1, i2⟩ := lay0 HI2.out
  obtain ⟨s1, s2⟩ := lay0 HS2.out
  go_wp2_with fail
  clear c1 c2 i1 i2 s1 s2
  go_at_call 47
  refine (spec_l1In _ _ _ _).mono ?_
  rintro e w' ⟨rfl, rfl⟩
  cases hq : inB s.pos 0 4096 with
  | false =>
    have HL := sA (show stateOk c x v s = false by rw [GR.out, hq]; simp); clear hq
    obtain ⟨c1, c2⟩ := lay0 HC2.out
    obtain ⟨i1, i2⟩ := lay0 HI2.out
    obtain ⟨s1, s2⟩ := lay0 HS2.out
    go_wp2
    go_ret
    exact ⟨by rw [HL.out]; rfl, HB2.out⟩
  | true =>
  have GP := sA hq; clear hq
  obtain ⟨c1, c2⟩ := lay0 HC2.out
  obtain ⟨i1, i2⟩ := lay0 HI2.out
  obtain ⟨s1, s2⟩ := lay0 HS2.out
  go_wp2_with fail
  clear c1 c2 i1 i2 s1 s2
  go_at_call 47
  refine (spec_l1In _ _ _ _).mono ?_
  rintro e w' ⟨rfl, rfl⟩
  cases hq : inB s.time 0 1000000000 with
  | false =>
    have HL := sA (show stateOk c x v s = false by rw [GR.out, hq]; simp); clear hq
    obtain ⟨c1, c2⟩ := lay0 HC2.out
    obtain ⟨i1, i2⟩ := lay0 HI2.out
    obtain ⟨s1, s2⟩ := lay0 HS2.out
    go_wp2
    go_ret
    exact ⟨by rw [HL.out]; rfl, HB2.out⟩
  | true =>
  have GT := sA hq; clear hq
  obtain ⟨c1, c2⟩ := lay0 HC2.out
  obtain ⟨i1, i2⟩ := lay0 HI2.out
  obtain ⟨s1, s2⟩ := lay0 HS2.out
  go_wp2_with fail
  clear c1 c2 i1 i2 s1 s2
  go_at_call 47
  refine (spec_l1In _ _ _ _).mono ?_
  rintro e w' ⟨rfl, rfl⟩
  cases hq : inB s.dist 0 1000000000 with
  | false =>
    have HL := sA (show stateOk c x v s = false by rw [GR.out, hq]; simp); clear hq
    obtain ⟨c1, c2⟩ := lay0 HC2.out
    obtain ⟨i1, i2⟩ := lay0 HI2.out
    obtain ⟨s1, s2⟩ := lay0 HS2.out
    go_wp2
    go_ret
    exact ⟨by rw [HL.out]; rfl, HB2.out⟩
  | true =>
  have GD := sA hq; clear hq
  obtain ⟨c1, c2⟩ := lay0 HC2.out
  obtain ⟨i1, i2⟩ := lay0 HI2.out
  obtain ⟨s1, s2⟩ := lay0 HS2.out
  go_wp2_with fail
  clear c1 c2 i1 i2 s1 s2
  go_at_call 47
  refine (spec_l1In _ _ _ _).mono ?_
  rintro e w' ⟨rfl, rfl⟩
  cases hq : inB s.load (-1000000000) 1000000000 with
  | false =>
    have HL := sA (show stateOk c x v s = false by rw [GR.out, hq]; simp); clear hq
    obtain ⟨c1, c2⟩ := lay0 HC2.out
    obtain ⟨i1, i2⟩ := lay0 HI2.out
    obtain ⟨s1, s2⟩ := lay0 HS2.out
    go_wp2
    go_ret
    exact ⟨by rw [HL.out]; rfl, HB2.out⟩
  | true =>
  have GL := sA hq; clear hq
  cases hq : decide ((s.s0.length : Int) = (x.qs.length : Int)) with
  | false =>
    have hqq : ((s.s0.length : Int) == (x.qs.length : Int)) = false := beq_eq_false_iff_ne.2 (of_decide_eq_false hq)
    have HL := sA (show stateOk c x v s = false by rw [GR.out, hq]; simp)
    obtain ⟨c1, c2⟩ := lay0 HC2.out
    obtain ⟨i1, i2⟩ := lay0 HI2.out
    obtain ⟨s1, s2⟩ := lay0 HS2.out
    go_wp2
    go_ret
    exact ⟨by rw [HL.out]; rfl, HB2.out⟩
  | true =>
  have hqq0 : ((s.s0.length : Int) == (x.qs.length : Int)) = true := beq_iff_eq.2 (of_decide_eq_true hq)
  have GE0 := sA hq
  clear hq
  have hqr0 : decide ((s.s0.length : Int) = (x.qs.length : Int)) = true := GE0.out
  obtain ⟨c1, c2⟩ := lay0 HC2.out
  obtain ⟨i1, i2⟩ := lay0 HI2.out
  obtain ⟨s1, s2⟩ := lay0 HS2.out
  go_wp2_with fail
  clear c1 c2 i1 i2 s1 s2
  go_at_call 50
  refine (spec_allIn _ S0 g0 s.s0 (Kd.C_below HS.out.1 HB2.out) 0 2).mono ?_
  rintro e w3 ⟨rfl, hb⟩
  have HB3 := sA (bC HB2.out hb) ; have HC3 := sA (bB HC2.out hb) ; have HI3 := sA (bB HI2.out hb) ; have HS3 := sA (bB HS2.out hb) ; clear hb
  cases hq : allIn s.s0 0 2 with
  | false =>
    have HL := sA (show stateOk c x v s = false by rw [GR.out, hq]; simp); clear hq
    obtain ⟨c1, c2⟩ := lay0 HC3.out
    obtain ⟨i1, i2⟩ := lay0 HI3.out
    obtain ⟨s1, s2⟩ := lay0 HS3.out
    go_wp2
    go_ret
    exact ⟨by rw [HL.out]; rfl, HB3.out⟩
  | true =>
  have GA0 := sA hq; clear hq
  cases hq : decide ((s.s1.length : Int) = c.regs) with
  | false =>
    have hqq : ((s.s1.length : Int) == c.regs) = false := beq_eq_false_iff_ne.2 (of_decide_eq_false hq)
    have HL := sA (show stateOk c x v s = false by rw [GR.out, hq]; simp)
    obtain ⟨c1, c2⟩ := lay0 HC3.out
    obtain ⟨i1, i2⟩ := lay0 HI3.out
    obtain ⟨s1, s2⟩ := lay0 HS3.out
    go_wp2
    go_ret
    exact ⟨by rw [HL.out]; rfl, HB3.out⟩
  | true =>
  have hqq1 : ((s.s1.length : Int) == c.regs) = true := beq_iff_eq.2 (of_decide_eq_true hq)
  have GE1 := sA hq
  clear hq
  have hqr1 : decide ((s.s1.length : Int) = c.regs) = true := GE1.out
  obtain ⟨c1, c2⟩ := lay0 HC3.out
  obtain ⟨i1, i2⟩ := lay0 HI3.out
  obtain ⟨s1, s2⟩ := lay0 HS3.out
  go_wp2_with fail
  clear c1 c2 i1 i2 s1 s2
  go_at_call 50
  refine (spec_allIn _ S1 g1 s.s1 (Kd.C_below HS.out.2.1 HB3.out) (-1000000000) 1000000000).mono ?_
  rintro e w4 ⟨rfl, hb⟩
  have HB4 := sA (bC HB3.out hb) ; have HC4 := sA (bB HC3.out hb) ; have HI4 := sA (bB HI3.out hb) ; have HS4 := sA (bB HS3.out hb) ; clear hb
  cases hq : allIn s.s1 (-1000000000) 1000000000 with
  | false =>
    have HL := sA (show stateOk c x v s = false by rw [GR.out, hq]; simp); clear hq
    obtain ⟨c1, c2⟩ := lay0 HC4.out
    obtain ⟨i1, i2⟩ := lay0 HI4.out
    obtain ⟨s1, s2⟩ := lay0 HS4.out
    go_wp2
    go_ret
    exact ⟨by rw [HL.out]; rfl, HB4.out⟩
  | true =>
  have GA1 := sA hq; clear hq
  cases hq : decide ((s.s2.length : Int) = c.slots * (x.qs.length : Int)) with
  | false =>
    have hqq : ((s.s2.length : Int) == c.slots * (x.qs.length : Int)) = false := beq_eq_false_iff_ne.2 (of_decide_eq_false hq)
    have HL := sA (show stateOk c x v s = false by rw [GR.out, hq]; simp)
    obtain ⟨c1, c2⟩ := lay0 HC4.out
    obtain ⟨i1, i2⟩ := lay0 HI4.out
    obtain ⟨s1, s2⟩ := lay0 HS4.out
    go_wp2
    go_ret
    exact ⟨by rw [HL.out]; rfl, HB4.out⟩
  | true =>
  have hqq2 : ((s.s2.length : Int) == c.slots * (x.qs.length : Int)) = true := beq_iff_eq.2 (of_decide_eq_true hq)
  have GE2 := sA hq
  clear hq
  have hqr2 : decide ((s.s2.length : Int) = c.slots * (x.qs.length : Int)) = true := GE2.out
  obtain ⟨c1, c2⟩ := lay0 HC4.out
  obtain ⟨i1, i2⟩ := lay0 HI4.out
  obtain ⟨s1, s2⟩ := lay0 HS4.out
  go_wp2_with fail
  clear c1 c2 i1 i2 s1 s2
  go_at_call 50
  refine (spec_allIn _ S2 g2 s.s2 (Kd.C_below HS.out.2.2 HB4.out) (-1000000000) 1000000000).mono ?_
  rintro e w5 ⟨rfl, hb⟩
  have HB5 := sA (bC HB4.out hb) ; have HC5 := sA (bB HC4.out hb) ; have HI5 := sA (bB HI4.out hb) ; have HS5 := sA (bB HS4.out hb) ; clear hb
  cases hq : allIn s.s2 (-1000000000) 1000000000 with
  | false =>
    have HL := sA (show stateOk c x v s = false by rw [GR.out, hq]; simp); clear hq
    obtain ⟨c1, c2⟩ := lay0 HC5.out
    obtain ⟨i1, i2⟩ := lay0 HI5.out
    obtain ⟨s1, s2⟩ := lay0 HS5.out
    go_wp2
    go_ret
    exact ⟨by rw [HL.out]; rfl, HB5.out⟩
  | true =>
  have GA2 := sA hq; clear hq
  have HL := sA (show stateOk c x v s = true by rw [GR.out, GP.out, GPL.out, GT.out, GD.out, GL.out, GE0.out, GA0.out, GE1.out, GA1.out, GE2.out, GA2.out]; rfl)
  obtain ⟨c1, c2⟩ := lay0 HC5.out
  obtain ⟨i1, i2⟩ := lay0 HI5.out
  obtain ⟨s1, s2⟩ := lay0 HS5.out
  go_wp2
  go_ret
  exact ⟨by rw [HL.out]; rfl, HB5.out⟩
end
end Go.Proofs.YtlhpbpkefkabgaaGreat.L1
namespace Go.Proofs.YtlhpbpkefkabgaaGreat.L1
open Go.RowKit Go.Proofs.YtlhpbpkefkabgaaGreatW.PrintWords Go.Proofs.YtlhpbpkefkabgaaGreat.B
set_option linter.unusedVariables false
set_option linter.unusedSimpArgs false
attribute [local go_sem] mk_cell mk_frozen
section
variable (w : World)
set_option maxRecDepth 100000 in
set_option maxHeartbeats 4000000 in
theorem impl_goodAsk (u v1 : Value) (c : Code) (hc : ReadCode w u c) (x : Inst) (hx : ReadInst w v1 x) (v : Int) : Calls Tryz.prog 43 #[u, v1, .int .i64 v] w fun e w' => e = .returned (.bool (askOk c x v)) ∧ Below w.heap.size w w' := by
  have HX := sA (And.intro hc hx)
  obtain ⟨A0, c0, A1, c1, A2, c2, rfl, a0, a1, a2⟩ := hc
  obtain ⟨B0, d0, B1, d1, B2, d2, rfl, b0, b1, b2⟩ := hx
  clear a0 a1 a2 b0 b1 b2
  have HB0 := sA (bA (bA (Below.refl w.heap.size w) (.cells #[.int .i64 c.regs, .int .i64 c.slots, .slice A0 c.b0.length c0, .slice A1 c.b1.length c1, .slice A2 c.b2.length c2] 41)) (.cells #[.slice B0 x.vs.length d0, .slice B1 x.qs.length d1, .slice B2 x.rs.length d2] 47))
  have h := al_new w (.cells #[.int .i64 c.regs, .int .i64 c.slots, .slice A0 c.b0.length c0, .slice A1 c.b1.length c1, .slice A2 c.b2.length c2] 41)
  replace h := blk_box h (.cells #[.slice B0 x.vs.length d0, .slice B1 x.qs.length d1, .slice B2 x.rs.length d2] 47)
  have HC0 := sA h; clear h
  have h := al_new (w.alloc (.cells #[.int .i64 c.regs, .int .i64 c.slots, .slice A0 c.b0.length c0, .slice A1 c.b1.length c1, .slice A2 c.b2.length c2] 41)) (.cells #[.slice B0 x.vs.length d0, .slice B1 x.qs.length d1, .slice B2 x.rs.length d2] 47)
  simp only [al_size] at h
  have HI0 := sA h; clear h
  go_enter Tryz.func43, Tryz.ntmps43
  go_wp2_with fail
  go_at_call 77
  refine (impl_ValidCode _ _ c (HX.out.1.below HB0.out)).mono ?_
  rintro e w1 ⟨rfl, hb⟩
  have HB1 := sA (bC HB0.out hb) ; have HC1 := sA (bB HC0.out hb) ; have HI1 := sA (bB HI0.out hb) ; clear hb
  cases hq : c.valid with
  | false =>
    have HL := sA (show askOk c x v = false by unfold askOk; rw [hq]; rfl); clear hq
    obtain ⟨c1, c2⟩ := lay0 HC1.out
    obtain ⟨i1, i2⟩ := lay0 HI1.out
    go_wp2
    go_ret
    exact ⟨by rw [HL.out]; rfl, HB1.out⟩
  | true =>
  have G0 := sA hq; clear hq
  obtain ⟨c1, c2⟩ := lay0 HC1.out
  obtain ⟨i1, i2⟩ := lay0 HI1.out
  go_wp2_with fail
  clear c1 c2 i1 i2
  go_at_call 78
  refine (impl_validInst _ _ x (HX.out.2.below HB1.out)).mono ?_
  rintro e w2 ⟨rfl, hb⟩
  have HB2 := sA (bC HB1.out hb) ; have HC2 := sA (bB HC1.out hb) ; have HI2 := sA (bB HI1.out hb) ; clear hb
  cases hq : x.valid with
  | false =>
    have HL := sA (show askOk c x v = false by unfold askOk; rw [hq]; simp); clear hq
    obtain ⟨c1, c2⟩ := lay0 HC2.out
    obtain ⟨i1, i2⟩ := lay0 HI2.out
    go_wp2
    go_ret
    exact ⟨by rw [HL.out]; rfl, HB2.out⟩
  | true =>
  have G1 := sA hq; clear hq
  obtain ⟨f0, f1, f2⟩ := Inst.few_of G1.out
  have HS1 := sA (show x.small from ⟨by omega, by omega, by omega⟩)
  have q0 : IntKind.i64.wrap ((x.vs.length : Int) - 1) = (x.vs.length : Int) - 1 := IntWalk.i64_in _ (by omega)
  clear f0 f1 f2
  obtain ⟨c1, c2⟩ := lay0 HC2.out
  obtain ⟨i1, i2⟩ := lay0 HI2.out
  go_wp2_with fail
  clear c1 c2 i1 i2
  go_at_call 80
  refine (impl_vehicles _ B0 B1 B2 x.vs.length x.qs.length x.rs.length d0 d1 d2 HS1.out.1).mono ?_
  rintro e w3 ⟨rfl, hb⟩
  have HB3 := sA (bC HB2.out hb) ; have HC3 := sA (bB HC2.out hb) ; have HI3 := sA (bB HI2.out hb) ; clear hb
  obtain ⟨c1, c2⟩ := lay0 HC3.out
  obtain ⟨i1, i2⟩ := lay0 HI3.out
  go_wp2_with fail
  clear c1 c2 i1 i2
  go_at_call 79
  refine (impl_within _ _ _ _).mono ?_
  rintro e w' ⟨rfl, rfl⟩
  cases hq : inB v 0 (x.vs.length - 1) with
  | false =>
    have HL := sA (show askOk c x v = false by unfold askOk; rw [hq]; simp); clear hq
    obtain ⟨c1, c2⟩ := lay0 HC3.out
    obtain ⟨i1, i2⟩ := lay0 HI3.out
    go_wp2
    go_ret
    exact ⟨by rw [HL.out]; rfl, HB3.out⟩
  | true =>
  have G2 := sA hq; clear hq
  have HL := sA (show askOk c x v = true by unfold askOk; rw [G0.out, G1.out, G2.out]; rfl)
  obtain ⟨c1, c2⟩ := lay0 HC3.out
  obtain ⟨i1, i2⟩ := lay0 HI3.out
  go_wp2
  go_ret
  exact ⟨by rw [HL.out]; rfl, HB3.out⟩
end
end Go.Proofs.YtlhpbpkefkabgaaGreat.L1
namespace Go.Proofs.YtlhpbpkefkabgaaGreat.L1
open Go.RowKit Go.Proofs.YtlhpbpkefkabgaaGreatW.PrintWords Go.Proofs.YtlhpbpkefkabgaaGreat.B
set_option linter.unusedVariables false
set_option linter.unusedSimpArgs false
attribute [local go_sem] mk_cell mk_frozen
section
variable {H : Type} {enc : TypeId × Value → H} {w : World} {base : Nat} {spare : Nat → Bool} {held : Bool}
theorem open_agg {P : Program} {r : Reach} {b0 : Nat} {t : TypeId} {fs : Array Field} {v : Value} {d : DataW H} {p : List MemPlace} (hs : P.underlying t = some (.struct fs)) (hone : Deep.oneCellFields P fs = true) (hC : P.cellsOf t = fs.size)
    (hv : Value.okWide P w r b0 t v) (h : DataW.Trod enc P w base spare held t v d p) :
    ∃ cs : Array Value, v = .agg cs ∧ cs.size = fs.size ∧ ∀ (i : Nat) (f : Field), fs[i]? = some f → ∃ u n y, cs[i]? = some u ∧ DataW.trod enc P w base spare held n f.type [u] = some y := by
  obtain ⟨cs, rfl, hsz⟩ := Go.WideShapes.okWide_struct hs hv
  obtain ⟨fuel, hf⟩ := h
  obtain ⟨xs, n, _, _, _, hl, hx⟩ := DataW.trod_struct hs hf
  refine ⟨cs, rfl, hsz.trans hC, fun i f hif => ?_⟩
  have hi : i < fs.size := by
    rcases Nat.lt_or_ge i fs.size with h | h
    · exact h
    · rw [Array.getElem?_eq_none h] at hif; cases hif
  have hic : i < cs.size := by omega
  obtain ⟨o, k⟩ := Deep.hone_of hone i f hif
  have h1 := hx i f hif
  rw [List.getElem?_eq_getElem (by omega)] at h1
  refine ⟨cs[i], n, xs[i], by simp [hic], ?_⟩
  have e : ((Value.agg cs).cells.toList.drop f.offset).take (P.cellsOf f.type) = [cs[i]] := by
    rw [o, k]
    show (cs.toList.drop i).take 1 = _
    rw [List.drop_eq_getElem_cons (by simpa using hic)]
    simp
  rw [e] at h1
  exact h1
theorem five {cs : Array Value} (h : cs.size = 5) : ∃ v0 v1 v2 v3 v4, cs = #[v0, v1, v2, v3, v4] := by
  obtain ⟨l⟩ := cs
  match l, h with
  | [a, b, c, d, e], _ => exact ⟨a, b, c, d, e, rfl⟩
theorem open_ins (n : Nat) (cs : List Value) (x : DataW H × List MemPlace) (h : DataW.trod enc Tryz.prog w base spare held n 103 cs = some x) : ∃ y : Ins, kIns.K w y cs := by
  obtain ⟨zs, hl, rfl⟩ := Open.flat_ints 3 _ 4 n cs x (by kernel_rfl) h
  match zs, hl with
  | [a0, a1, a2, a3], _ => exact ⟨⟨a0, a1, a2, a3⟩, rfl⟩
set_option maxRecDepth 100000 in
/-- Code that came in, by value. -/
theorem open_code {r : Reach} {b0 : Nat} {v : Value} {d : DataW H} {p : List MemPlace} (hv : Value.okWide Tryz.prog w r b0 24 v) (h : DataW.Trod enc Tryz.prog w base spare held 24 v d p) : ∃ x, ReadCode w v x := by
  obtain ⟨cs, rfl, hsz, hf⟩ := open_agg (Tryz.underlying24) (by kernel_rfl) (by kernel_rfl) hv h
  obtain ⟨v0, v1, v2, v3, v4, rfl⟩ := five hsz
  obtain ⟨u0, n0, y0, e0, g0⟩ := hf 0 _ rfl
  obtain ⟨u1, n1, y1, e1, g1⟩ := hf 1 _ rfl
  obtain ⟨u2, n2, y2, e2, h0⟩ := hf 2 _ rfl
  obtain ⟨u3, n3, y3, e3, h1⟩ := hf 3 _ rfl
  obtain ⟨u4, n4, y4, e4, h2⟩ := hf 4 _ rfl
  simp only [List.getElem?_toArray, List.getElem?_cons_zero, List.getElem?_cons_succ, Option.some.injEq] at e0 e1 e2 e3 e4
  subst e0 e1 e2 e3 e4
  obtain ⟨z0, f0, _, _⟩ := DataW.trod_int (Tryz.underlying2) g0
  obtain ⟨z1, f1, _, _⟩ := DataW.trod_int (Tryz.underlying2) g1
  obtain ⟨A0, c0, vs, e0, r0⟩ := Open.open_C kIns (Tryz.underlying22) (by kernel_rfl) open_ins h0
  obtain ⟨A1, c1, qs, e1, r1⟩ := Open.open_C kIns (Tryz.underlying22) (by kernel_rfl) open_ins h1
  obtain ⟨A2, c2, rs, e2, r2⟩ := Open.open_C kIns (Tryz.underlying22) (by kernel_rfl) open_ins h2
  simp only [List.cons.injEq, and_true] at f0 f1 e0 e1 e2
  subst f0 f1 e0 e1 e2
  exact ⟨⟨z0, z1, vs, qs, rs⟩, A0, c0, A1, c1, A2, c2, rfl, r0, r1, r2⟩
end
section
variable (w : World)
end
end Go.Proofs.YtlhpbpkefkabgaaGreat.L1
namespace Go.Proofs.YtlhpbpkefkabgaaGreat.L1
open Go.RowKit Go.Proofs.YtlhpbpkefkabgaaGreatW.PrintWords Go.Proofs.YtlhpbpkefkabgaaGreat.B
set_option linter.unusedVariables false
set_option linter.unusedSimpArgs false
attribute [local go_sem] mk_cell mk_frozen
section
variable (w : World)
theorem Inst.routeOk_road {x : Inst} {v : Int} {xs : List Int} : x.routeOk v xs = (x.valid && inB v 0 (x.vs.length - 1) && x.roadOk xs) := by
  unfold Inst.routeOk Inst.roadOk; rw [Bool.and_assoc]
end
end Go.Proofs.YtlhpbpkefkabgaaGreat.L1
namespace Go.Proofs.YtlhpbpkefkabgaaGreat.L1
open Go.RowKit Go.Proofs.YtlhpbpkefkabgaaGreatW.PrintWords Go.Proofs.YtlhpbpkefkabgaaGreat.B
set_option linter.unusedVariables false
set_option linter.unusedSimpArgs false
attribute [local go_sem] mk_cell mk_frozen
section
variable {H : Type} {enc : TypeId × Value → H} {w : World} {base : Nat} {spare : Nat → Bool} {held : Bool}
theorem open_one (n : Nat) (cs : List Value) (x : DataW H × List MemPlace) (h : DataW.trod enc Tryz.prog w base spare held n 2 cs = some x) : ∃ y : Int, kInt.K w y cs := by
  obtain ⟨zs, hl, rfl⟩ := Open.flat_ints 1 _ 1 n cs x (by kernel_rfl) h
  match zs, hl with
  | [a0], _ => exact ⟨a0, rfl⟩
set_option maxRecDepth 100000 in
/-- A row of whole numbers that came in. -/
theorem open_ints {r : Reach} {b0 : Nat} {v : Value} {d : DataW H} {p : List MemPlace} (hv : Value.okWide Tryz.prog w r b0 30 v) (h : DataW.Trod enc Tryz.prog w base spare held 30 v d p) : ∃ xs, ReadInts w v xs := by
  obtain ⟨a0, len, cap, rfl⟩ := Go.WideShapes.okWide_slice Tryz.underlying30 hv
  obtain ⟨m, hm⟩ := h
  obtain ⟨A, c, xs, e, r⟩ := Open.open_C kInt (Tryz.underlying30) (by kernel_rfl) open_one hm
  have e1 : [Value.slice a0 len cap] = [Value.slice A xs.length c] := e
  simp only [List.cons.injEq, and_true] at e1
  exact ⟨xs, A, c, e1, r⟩
end
section
variable (w : World)
end
end Go.Proofs.YtlhpbpkefkabgaaGreat.L1
namespace Go.Proofs.YtlhpbpkefkabgaaGreat.L1
open Go.RowKit Go.Proofs.YtlhpbpkefkabgaaGreatW.PrintWords Go.Proofs.YtlhpbpkefkabgaaGreat.B
set_option linter.unusedVariables false
set_option linter.unusedSimpArgs false
attribute [local go_sem] mk_cell mk_frozen
theorem belC10 {w W : World} {a0 a1 a2 a3 a4 a5 a6 a7 a8 a9 : Addr} {v0 v1 v2 v3 v4 v5 v6 v7 v8 v9 : Value} (h : W.cell? a0 = some v0 ∧ W.cell? a1 = some v1 ∧ W.cell? a2 = some v2 ∧ W.cell? a3 = some v3 ∧ W.cell? a4 = some v4 ∧ W.cell? a5 = some v5 ∧ W.cell? a6 = some v6 ∧ W.cell? a7 = some v7 ∧ W.cell? a8 = some v8 ∧ W.cell? a9 = some v9 ∧ Below w.heap.size w W) : Below w.heap.size w W := h.2.2.2.2.2.2.2.2.2.2
theorem belC6 {w W : World} {a0 a1 a2 a3 a4 a5 : Addr} {v0 v1 v2 v3 v4 v5 : Value} (h : W.cell? a0 = some v0 ∧ W.cell? a1 = some v1 ∧ W.cell? a2 = some v2 ∧ W.cell? a3 = some v3 ∧ W.cell? a4 = some v4 ∧ W.cell? a5 = some v5 ∧ Below w.heap.size w W) : Below w.heap.size w W := h.2.2.2.2.2.2
section
variable {H : Type} {enc : TypeId × Value → H} {w : World} {base : Nat} {spare : Nat → Bool} {held : Bool}
end
section
variable (w : World)
end
end Go.Proofs.YtlhpbpkefkabgaaGreat.L1
