/- ValidState of the program. -/
import Derived.Test.YtlhpbpkefkabgaaGreatQF12
namespace Go.Proofs.YtlhpbpkefkabgaaGreat.L1
open Go.RowKit Go.Proofs.YtlhpbpkefkabgaaGreatW.PrintWords Go.Proofs.YtlhpbpkefkabgaaGreat.B
set_option linter.unusedVariables false
set_option linter.unusedSimpArgs false
attribute [local go_sem] mk_cell mk_frozen
section
variable (w : World)
theorem impl_capped1 (n : Int) : Calls Tryz.prog 123 #[.int .i64 n] w fun e w' => e = .returned (.bool (!inB n (-1000000000) 1000000000)) ∧ Below w.heap.size w w' := by
  go_enter Tryz.func123, Tryz.ntmps123
  go_wp2_with (go_at_call 79; refine (impl_within _ _ _ _).mono ?_; rintro e w' ⟨rfl, rfl⟩)
  go_ret
  exact ⟨by cases inB n (-1000000000) 1000000000 <;> rfl, Below.refl _ _⟩
theorem impl_sgood1 (n : Int) : Calls Tryz.prog 100 #[.int .i64 n] w fun e w' => e = .returned (.bool (!inB n 0 2)) ∧ Below w.heap.size w w' := by
  go_enter Tryz.func100, Tryz.ntmps100
  go_wp2_with (go_at_call 79; refine (impl_within _ _ _ _).mono ?_; rintro e w' ⟨rfl, rfl⟩)
  go_ret
  exact ⟨by cases inB n 0 2 <;> rfl, Below.refl _ _⟩
theorem contains_in (g : Nat) (eg : ∀ args w, (callFunc g args).run Tryz.prog w = .ok (.enter g args) w) (lo hi : Int) (R : Option Addr) (rc : Nat) (xs : List Int) (hr : kInt.C w R xs.length xs) (hg : ∀ (W : World) (n : Int), Calls Tryz.prog g #[.int .i64 n] W fun e w' => e = .returned (.bool (!inB n lo hi)) ∧ Below W.heap.size W w') :
    Calls Tryz.prog 81 #[.slice R xs.length rc, .func (.func g) #[] #[]] w fun e w' => e = .returned (.bool (!allIn xs lo hi)) ∧ Below w.heap.size w w' := by
  have hc := containsFunc w g #[] eg (fun n => !inB n lo hi) R rc xs hr (fun W n hb => hg W n)
  rw [show (allI xs.length fun k => !(fun n => !inB n lo hi) (xs.getD k 0)) = allIn xs lo hi from allI_congr fun k hk => by simp] at hc
  exact hc
theorem impl_capped (R : Option Addr) (rc : Nat) (xs : List Int) (hr : kInt.C w R xs.length xs) : Calls Tryz.prog 99 #[.slice R xs.length rc] w fun e w' => e = .returned (.bool (allIn xs (-1000000000) 1000000000)) ∧ Below w.heap.size w w' := by
  have eg : ∀ args w, (callFunc 123 args).run Tryz.prog w = .ok (.enter 123 args) w := enters_of Tryz.func123 (by kernel_rfl) rfl
  have HC := Aside0.mk (contains_in w 123 eg (-1000000000) 1000000000 R rc xs hr impl_capped1); clear eg hr
  go_enter Tryz.func99, Tryz.ntmps99
  go_wp2_with fail
  go_at_call 81
  refine HC.out.mono ?_
  rintro e w1 ⟨rfl, hb⟩
  have HB := Aside0.mk hb; clear hb
  go_wp2
  go_ret
  exact ⟨by cases allIn xs (-1000000000) 1000000000 <;> rfl, HB.out⟩
set_option maxRecDepth 100000 in
set_option maxHeartbeats 4000000 in
theorem impl_goodAsk (u v1 : Value) (c : Code) (hc : ReadCode w u c) (x : Inst) (hx : ReadInst w v1 x) (v : Int) : Calls Tryz.prog 43 #[u, v1, .int .i64 v] w fun e w' => e = .returned (.bool (askOk c x v)) ∧ Below w.heap.size w w' := by
  have HX := Aside0.mk (And.intro hc hx)
  obtain ⟨A0, c0, A1, c1, A2, c2, rfl, a0, a1, a2⟩ := hc
  obtain ⟨B0, d0, B1, d1, B2, d2, rfl, b0, b1, b2⟩ := hx
  clear a0 a1 a2 b0 b1 b2
  have HB0 := Aside0.mk (below_alloc (below_alloc (Below.refl w.heap.size w) (.cells #[.int .i64 c.regs, .int .i64 c.slots, .slice A0 c.b0.length c0, .slice A1 c.b1.length c1, .slice A2 c.b2.length c2] 41)) (.cells #[.slice B0 x.vs.length d0, .slice B1 x.qs.length d1, .slice B2 x.rs.length d2] 47))
  have h := al_new w (.cells #[.int .i64 c.regs, .int .i64 c.slots, .slice A0 c.b0.length c0, .slice A1 c.b1.length c1, .slice A2 c.b2.length c2] 41)
  replace h := blk_box h (.cells #[.slice B0 x.vs.length d0, .slice B1 x.qs.length d1, .slice B2 x.rs.length d2] 47)
  have HC0 := Aside0.mk h; clear h
  have h := al_new (w.alloc (.cells #[.int .i64 c.regs, .int .i64 c.slots, .slice A0 c.b0.length c0, .slice A1 c.b1.length c1, .slice A2 c.b2.length c2] 41)) (.cells #[.slice B0 x.vs.length d0, .slice B1 x.qs.length d1, .slice B2 x.rs.length d2] 47)
  simp only [al_size] at h
  have HI0 := Aside0.mk h; clear h
  go_enter Tryz.func43, Tryz.ntmps43
  go_wp2_with fail
  go_at_call 77
  refine (impl_ValidCode _ _ c (HX.out.1.below HB0.out)).mono ?_
  rintro e w1 ⟨rfl, hb⟩
  have HB1 := Aside0.mk (bel_call HB0.out hb) ; have HC1 := Aside0.mk (blk_below HC0.out hb) ; have HI1 := Aside0.mk (blk_below HI0.out hb) ; clear hb
  cases hq : c.valid with
  | false =>
    have HL := Aside0.mk (show askOk c x v = false by unfold askOk; rw [hq]; rfl); clear hq
    obtain ⟨c1, c2⟩ := lay (Below.refl _ _) HC1.out
    obtain ⟨i1, i2⟩ := lay (Below.refl _ _) HI1.out
    go_wp2
    go_ret
    exact ⟨by rw [HL.out]; rfl, HB1.out⟩
  | true =>
  have G0 := Aside0.mk hq; clear hq
  obtain ⟨c1, c2⟩ := lay (Below.refl _ _) HC1.out
  obtain ⟨i1, i2⟩ := lay (Below.refl _ _) HI1.out
  go_wp2_with fail
  clear c1 c2 i1 i2
  go_at_call 78
  refine (impl_validInst _ _ x (HX.out.2.below HB1.out)).mono ?_
  rintro e w2 ⟨rfl, hb⟩
  have HB2 := Aside0.mk (bel_call HB1.out hb) ; have HC2 := Aside0.mk (blk_below HC1.out hb) ; have HI2 := Aside0.mk (blk_below HI1.out hb) ; clear hb
  cases hq : x.valid with
  | false =>
    have HL := Aside0.mk (show askOk c x v = false by unfold askOk; rw [hq]; simp); clear hq
    obtain ⟨c1, c2⟩ := lay (Below.refl _ _) HC2.out
    obtain ⟨i1, i2⟩ := lay (Below.refl _ _) HI2.out
    go_wp2
    go_ret
    exact ⟨by rw [HL.out]; rfl, HB2.out⟩
  | true =>
  have G1 := Aside0.mk hq; clear hq
  obtain ⟨f0, f1, f2⟩ := Inst.few_of G1.out
  have HS1 := Aside0.mk (show x.small from ⟨by omega, by omega, by omega⟩)
  have q0 : IntKind.i64.wrap ((x.vs.length : Int) - 1) = (x.vs.length : Int) - 1 := IntWalk.i64_in _ (by omega)
  clear f0 f1 f2
  obtain ⟨c1, c2⟩ := lay (Below.refl _ _) HC2.out
  obtain ⟨i1, i2⟩ := lay (Below.refl _ _) HI2.out
  go_wp2_with fail
  clear c1 c2 i1 i2
  go_at_call 80
  refine (impl_vehicles _ B0 B1 B2 x.vs.length x.qs.length x.rs.length d0 d1 d2 HS1.out.1).mono ?_
  rintro e w3 ⟨rfl, hb⟩
  have HB3 := Aside0.mk (bel_call HB2.out hb) ; have HC3 := Aside0.mk (blk_below HC2.out hb) ; have HI3 := Aside0.mk (blk_below HI2.out hb) ; clear hb
  obtain ⟨c1, c2⟩ := lay (Below.refl _ _) HC3.out
  obtain ⟨i1, i2⟩ := lay (Below.refl _ _) HI3.out
  go_wp2_with fail
  clear c1 c2 i1 i2
  go_at_call 79
  refine (impl_within _ _ _ _).mono ?_
  rintro e w' ⟨rfl, rfl⟩
  cases hq : inB v 0 (x.vs.length - 1) with
  | false =>
    have HL := Aside0.mk (show askOk c x v = false by unfold askOk; rw [hq]; simp); clear hq
    obtain ⟨c1, c2⟩ := lay (Below.refl _ _) HC3.out
    obtain ⟨i1, i2⟩ := lay (Below.refl _ _) HI3.out
    go_wp2
    go_ret
    exact ⟨by rw [HL.out]; rfl, HB3.out⟩
  | true =>
  have G2 := Aside0.mk hq; clear hq
  have HL := Aside0.mk (show askOk c x v = true by unfold askOk; rw [G0.out, G1.out, G2.out]; rfl)
  obtain ⟨c1, c2⟩ := lay (Below.refl _ _) HC3.out
  obtain ⟨i1, i2⟩ := lay (Below.refl _ _) HI3.out
  go_wp2
  go_ret
  exact ⟨by rw [HL.out]; rfl, HB3.out⟩
set_option maxRecDepth 100000 in
set_option maxHeartbeats 4000000 in
theorem impl_sgood (u v1 t : Value) (c : Code) (hc : ReadCode w u c) (x : Inst) (hx : ReadInst w v1 x) (v : Int) (s : St) (hs : ReadState w t s) (hn : s.small) (hcv : c.valid = true) (hxv : x.valid = true) : Calls Tryz.prog 65 #[t, u, v1, .int .i64 v] w fun e w' => e = .returned (.bool (s.ok c x v)) ∧ Below w.heap.size w w' := by
  have HX := Aside0.mk (And.intro hc (And.intro hx hs))
  obtain ⟨A0, c0, A1, c1, A2, c2, rfl, a0, a1, a2⟩ := hc
  obtain ⟨B0, d0, B1, d1, B2, d2, rfl, b0, b1, b2⟩ := hx
  obtain ⟨S0, g0, S1, g1, S2, g2, rfl, s0, s1, s2⟩ := hs
  have HS := Aside0.mk (And.intro s0 (And.intro s1 s2))
  clear a0 a1 a2 b0 b1 b2 s0 s1 s2
  have HN := Aside0.mk hn; clear hn
  have G0 := Aside0.mk hcv; have G1 := Aside0.mk hxv; clear hcv hxv
  obtain ⟨f0, f1, f2⟩ := Inst.few_of G1.out
  have HXS := Aside0.mk (show x.small from ⟨by omega, by omega, by omega⟩)
  have hsl : 0 ≤ c.slots ∧ c.slots ≤ 100 := (inB_iff _ _ _).1 (Code.valid_slots G0.out)
  have q1 : IntKind.i64.wrap (c.slots * (x.qs.length : Int)) = c.slots * (x.qs.length : Int) := mul_in hsl.1 hsl.2 (by omega)
  clear hsl f0 f1 f2
  have HB0 := Aside0.mk (below_alloc (below_alloc (below_alloc (Below.refl w.heap.size w) (.cells #[.int .i64 s.pos, .int .i64 s.rule, .int .i64 s.node, .int .i64 s.time, .int .i64 s.dist, .int .i64 s.load, .slice S0 s.s0.length g0, .slice S1 s.s1.length g1, .slice S2 s.s2.length g2] 49)) (.cells #[.int .i64 c.regs, .int .i64 c.slots, .slice A0 c.b0.length c0, .slice A1 c.b1.length c1, .slice A2 c.b2.length c2] 41)) (.cells #[.slice B0 x.vs.length d0, .slice B1 x.qs.length d1, .slice B2 x.rs.length d2] 47))
  have h := al_new w (.cells #[.int .i64 s.pos, .int .i64 s.rule, .int .i64 s.node, .int .i64 s.time, .int .i64 s.dist, .int .i64 s.load, .slice S0 s.s0.length g0, .slice S1 s.s1.length g1, .slice S2 s.s2.length g2] 49)
  replace h := blk_box h (.cells #[.int .i64 c.regs, .int .i64 c.slots, .slice A0 c.b0.length c0, .slice A1 c.b1.length c1, .slice A2 c.b2.length c2] 41)
  replace h := blk_box h (.cells #[.slice B0 x.vs.length d0, .slice B1 x.qs.length d1, .slice B2 x.rs.length d2] 47)
  have HS0 := Aside0.mk h; clear h
  have h := al_new (w.alloc (.cells #[.int .i64 s.pos, .int .i64 s.rule, .int .i64 s.node, .int .i64 s.time, .int .i64 s.dist, .int .i64 s.load, .slice S0 s.s0.length g0, .slice S1 s.s1.length g1, .slice S2 s.s2.length g2] 49)) (.cells #[.int .i64 c.regs, .int .i64 c.slots, .slice A0 c.b0.length c0, .slice A1 c.b1.length c1, .slice A2 c.b2.length c2] 41)
  simp only [al_size] at h
  replace h := blk_box h (.cells #[.slice B0 x.vs.length d0, .slice B1 x.qs.length d1, .slice B2 x.rs.length d2] 47)
  have HC0 := Aside0.mk h; clear h
  have h := al_new ((w.alloc (.cells #[.int .i64 s.pos, .int .i64 s.rule, .int .i64 s.node, .int .i64 s.time, .int .i64 s.dist, .int .i64 s.load, .slice S0 s.s0.length g0, .slice S1 s.s1.length g1, .slice S2 s.s2.length g2] 49)).alloc (.cells #[.int .i64 c.regs, .int .i64 c.slots, .slice A0 c.b0.length c0, .slice A1 c.b1.length c1, .slice A2 c.b2.length c2] 41)) (.cells #[.slice B0 x.vs.length d0, .slice B1 x.qs.length d1, .slice B2 x.rs.length d2] 47)
  simp only [al_size] at h
  have HI0 := Aside0.mk h; clear h
  have eg : ∀ args w, (callFunc 100 args).run Tryz.prog w = .ok (.enter 100 args) w := enters_of Tryz.func100 (by kernel_rfl) rfl
  have HEG := Aside0.mk eg; clear eg
  go_enter Tryz.func65, Tryz.ntmps65
  go_wp2_with fail
  go_at_call 97
  refine (impl_requests _ B0 B1 B2 x.vs.length x.qs.length x.rs.length d0 d1 d2 HXS.out.2.1).mono ?_
  rintro e w1 ⟨rfl, hb⟩
  have HB1 := Aside0.mk (bel_call HB0.out hb) ; have HS1 := Aside0.mk (blk_below HS0.out hb) ; have HC1 := Aside0.mk (blk_below HC0.out hb) ; have HI1 := Aside0.mk (blk_below HI0.out hb) ; clear hb
  by_cases hp : s.pos = -1
  · have p4 : (s.pos == -1) = true := beq_iff_eq.2 hp
    have p5 : decide (s.pos = -1) = true := decide_eq_true hp
    by_cases hm : s.rule = -1
    rotate_left
    · have p1 : (s.rule == -1) = false := beq_eq_false_iff_ne.2 hm
      have p2 : decide (s.rule = -1) = false := decide_eq_false hm
      have HL := Aside0.mk (show s.ok c x v = false by unfold St.ok; rcases Classical.em (0 ≤ s.rule) with h0 | h0; (rw [if_pos h0]; unfold inB; rw [hp]; simp); rw [if_neg h0, if_pos hm])
      have HM := Aside0.mk hm; have HP := Aside0.mk hp; clear hm hp
      obtain ⟨s1, s2⟩ := lay (Below.refl _ _) HS1.out
      obtain ⟨c1, c2⟩ := lay (Below.refl _ _) HC1.out
      obtain ⟨i1, i2⟩ := lay (Below.refl _ _) HI1.out
      go_wp2
      go_ret
      exact ⟨by rw [HL.out]; rfl, HB1.out⟩
    have p1 : (s.rule == -1) = true := beq_iff_eq.2 hm
    have p2 : decide (s.rule = -1) = true := decide_eq_true hm
    have HL := Aside0.mk (show s.ok c x v = s.bare by unfold St.ok; rw [if_neg (by omega), if_neg (by omega), if_pos hp])
    have HM := Aside0.mk hm; have HP := Aside0.mk hp; clear hm hp
    obtain ⟨s1, s2⟩ := lay (Below.refl _ _) HS1.out
    obtain ⟨c1, c2⟩ := lay (Below.refl _ _) HC1.out
    obtain ⟨i1, i2⟩ := lay (Below.refl _ _) HI1.out
    go_wp2_with fail
    clear s1 s2 c1 c2 i1 i2
    go_at_call 98
    refine (impl_bare _ _ s (HX.out.2.2.below HB1.out) HN.out).mono ?_
    rintro e w2 ⟨rfl, hb⟩
    have HB2 := Aside0.mk (bel_call HB1.out hb) ; have HS2 := Aside0.mk (blk_below HS1.out hb) ; have HC2 := Aside0.mk (blk_below HC1.out hb) ; have HI2 := Aside0.mk (blk_below HI1.out hb) ; clear hb
    obtain ⟨s1, s2⟩ := lay (Below.refl _ _) HS2.out
    obtain ⟨c1, c2⟩ := lay (Below.refl _ _) HC2.out
    obtain ⟨i1, i2⟩ := lay (Below.refl _ _) HI2.out
    go_wp2
    go_ret
    exact ⟨by rw [HL.out]; rfl, HB2.out⟩
  have p4 : (s.pos == -1) = false := beq_eq_false_iff_ne.2 hp
  have p5 : decide (s.pos = -1) = false := decide_eq_false hp
  by_cases hr : 0 ≤ s.rule
  · have p0 : decide (0 ≤ s.rule) = true := decide_eq_true hr
    have GR := Aside0.mk (show s.ok c x v = (s.bare && inB s.pos 0 4097 && decide (s.rule ≤ 100)) by unfold St.ok; rw [if_pos hr])
    have HP := Aside0.mk hp; clear hr hp
    cases hq : decide (s.rule ≤ 100) with
    | false =>
      have HL := Aside0.mk (show s.ok c x v = false by rw [GR.out, hq]; simp)
      obtain ⟨s1, s2⟩ := lay (Below.refl _ _) HS1.out
      obtain ⟨c1, c2⟩ := lay (Below.refl _ _) HC1.out
      obtain ⟨i1, i2⟩ := lay (Below.refl _ _) HI1.out
      go_wp2
      go_ret
      exact ⟨by rw [HL.out]; rfl, HB1.out⟩
    | true =>
    have G5 := Aside0.mk hq
    obtain ⟨s1, s2⟩ := lay (Below.refl _ _) HS1.out
    obtain ⟨c1, c2⟩ := lay (Below.refl _ _) HC1.out
    obtain ⟨i1, i2⟩ := lay (Below.refl _ _) HI1.out
    go_wp2_with fail
    clear s1 s2 c1 c2 i1 i2
    go_at_call 79
    refine (impl_within _ _ _ _).mono ?_
    rintro e w' ⟨rfl, rfl⟩
    cases hq : inB s.pos 0 4097 with
    | false =>
      have HL := Aside0.mk (show s.ok c x v = false by rw [GR.out, hq]; simp); clear hq
      obtain ⟨s1, s2⟩ := lay (Below.refl _ _) HS1.out
      obtain ⟨c1, c2⟩ := lay (Below.refl _ _) HC1.out
      obtain ⟨i1, i2⟩ := lay (Below.refl _ _) HI1.out
      go_wp2
      go_ret
      exact ⟨by rw [HL.out]; rfl, HB1.out⟩
    | true =>
    have G4 := Aside0.mk hq; clear hq
    obtain ⟨s1, s2⟩ := lay (Below.refl _ _) HS1.out
    obtain ⟨c1, c2⟩ := lay (Below.refl _ _) HC1.out
    obtain ⟨i1, i2⟩ := lay (Below.refl _ _) HI1.out
    go_wp2_with fail
    clear s1 s2 c1 c2 i1 i2
    go_at_call 98
    refine (impl_bare _ _ s (HX.out.2.2.below HB1.out) HN.out).mono ?_
    rintro e w2 ⟨rfl, hb⟩
    have HB2 := Aside0.mk (bel_call HB1.out hb) ; have HS2 := Aside0.mk (blk_below HS1.out hb) ; have HC2 := Aside0.mk (blk_below HC1.out hb) ; have HI2 := Aside0.mk (blk_below HI1.out hb) ; clear hb
    have HL := Aside0.mk (show s.ok c x v = s.bare by rw [GR.out, G4.out, G5.out]; simp)
    obtain ⟨s1, s2⟩ := lay (Below.refl _ _) HS2.out
    obtain ⟨c1, c2⟩ := lay (Below.refl _ _) HC2.out
    obtain ⟨i1, i2⟩ := lay (Below.refl _ _) HI2.out
    go_wp2
    go_ret
    exact ⟨by rw [HL.out]; rfl, HB2.out⟩
  have p0 : decide (0 ≤ s.rule) = false := decide_eq_false hr
  by_cases hm : s.rule = -1
  rotate_left
  · have p1 : (s.rule == -1) = false := beq_eq_false_iff_ne.2 hm
    have p2 : decide (s.rule = -1) = false := decide_eq_false hm
    have p3 : (s.rule != -1) = true := by simp [hm]
    have HL := Aside0.mk (show s.ok c x v = false by unfold St.ok; rw [if_neg hr, if_pos hm])
    have HM := Aside0.mk hm; have HP := Aside0.mk hp; clear hm hp hr
    obtain ⟨s1, s2⟩ := lay (Below.refl _ _) HS1.out
    obtain ⟨c1, c2⟩ := lay (Below.refl _ _) HC1.out
    obtain ⟨i1, i2⟩ := lay (Below.refl _ _) HI1.out
    go_wp2
    go_ret
    exact ⟨by rw [HL.out]; rfl, HB1.out⟩
  have p1 : (s.rule == -1) = true := beq_iff_eq.2 hm
  have p2 : decide (s.rule = -1) = true := decide_eq_true hm
  have p3 : (s.rule != -1) = false := by simp [hm]
  have GR := Aside0.mk (show s.ok c x v = (inB s.pos 0 4096 && placeOk x v s.pos s.node && inB s.time 0 1000000000 && inB s.dist 0 1000000000 && inB s.load (-1000000000) 1000000000 && decide ((s.s0.length : Int) = x.qs.length) && allIn s.s0 0 2 && decide ((s.s1.length : Int) = c.regs) && allIn s.s1 (-1000000000) 1000000000 && decide ((s.s2.length : Int) = c.slots * x.qs.length) && allIn s.s2 (-1000000000) 1000000000) by unfold St.ok; rw [if_neg hr, if_neg (by omega), if_neg hp]; rfl)
  have HM := Aside0.mk hm; have HP := Aside0.mk hp; clear hm hp hr
  obtain ⟨s1, s2⟩ := lay (Below.refl _ _) HS1.out
  obtain ⟨c1, c2⟩ := lay (Below.refl _ _) HC1.out
  obtain ⟨i1, i2⟩ := lay (Below.refl _ _) HI1.out
  go_wp2_with fail
  clear s1 s2 c1 c2 i1 i2
  go_at_call 79
  refine (impl_within _ _ _ _).mono ?_
  rintro e w' ⟨rfl, rfl⟩
  cases hq : inB s.pos 0 4096 with
  | false =>
    have HL := Aside0.mk (show s.ok c x v = false by rw [GR.out, hq]; simp); clear hq
    obtain ⟨s1, s2⟩ := lay (Below.refl _ _) HS1.out
    obtain ⟨c1, c2⟩ := lay (Below.refl _ _) HC1.out
    obtain ⟨i1, i2⟩ := lay (Below.refl _ _) HI1.out
    go_wp2
    go_ret
    exact ⟨by rw [HL.out]; rfl, HB1.out⟩
  | true =>
  have GP := Aside0.mk hq; clear hq
  have HPP := Aside0.mk ((inB_iff _ _ _).1 GP.out)
  by_cases hp : 0 < s.pos
  · have p6 : decide (0 < s.pos) = true := decide_eq_true hp
    have p9 : (s.pos == 0) = false := beq_eq_false_iff_ne.2 (by omega)
    have p10 : decide (s.pos = 0) = false := decide_eq_false (by omega)
    have HPL := Aside0.mk (show placeOk x v s.pos s.node = x.stop s.node by unfold placeOk; rw [if_pos hp]); clear hp
    have q2 : IntKind.i64.wrap (x.nodes - 1) = x.nodes - 1 := IntWalk.i64_in _ (by have := HXS.out; unfold Inst.small at this; unfold Inst.nodes; omega)
    obtain ⟨s1, s2⟩ := lay (Below.refl _ _) HS1.out
    obtain ⟨c1, c2⟩ := lay (Below.refl _ _) HC1.out
    obtain ⟨i1, i2⟩ := lay (Below.refl _ _) HI1.out
    go_wp2_with fail
    clear s1 s2 c1 c2 i1 i2
    have z0 := blk_cell HS1.out 0 ; have z1 := blk_cell HS1.out 1 ; have z2 := blk_cell HS1.out 2 ; have z3 := blk_cell HS1.out 3 ; have z4 := blk_cell HS1.out 4 ; have z5 := blk_cell HS1.out 5 ; have z6 := blk_cell HS1.out 6 ; have z7 := blk_cell HS1.out 7 ; have z8 := blk_cell HS1.out 8 ; have y0 := blk_cell HI1.out 0 ; have y1 := blk_cell HI1.out 1 ; have y2 := blk_cell HI1.out 2
    simp only [List.getElem?_toArray, List.getElem?_cons_zero, List.getElem?_cons_succ] at z0 z1 z2 z3 z4 z5 z6 z7 z8 y0 y1 y2
    have HXS2 := Aside0.mk (And.intro HXS.out.1 HXS.out.2.1)
    refine Grow.wp_region_growB (by kernel_rfl) (by kernel_rfl) ?_
    repeat ((first | (refine Grow.lex_skip (by rfl) ?_) | (refine Grow.lex_do _ (by rfl) (by intro W hj; have t0 := pw_cell_below hj.out z0 ; have t2 := pw_cell_below hj.out z2 ; have r0 := pw_cell_below hj.out y0 ; have r1 := pw_cell_below hj.out y1 ; have r2 := pw_cell_below hj.out y2; go_simp; first | exact Grow.Upon.val hj | (have cc := impl_nodes W B0 B1 B2 x.vs.length x.qs.length x.rs.length d0 d1 d2 HXS2.out.1 HXS2.out.2; rw [show (x.vs.length : Int) + 2 * (x.qs.length : Int) = x.nodes from rfl] at cc; with_reducible exact Grow.Upon.callB hj cc) | with_reducible exact Grow.Upon.callB hj (impl_vehicles W B0 B1 B2 x.vs.length x.qs.length x.rs.length d0 d1 d2 HXS2.out.1) | with_reducible exact Grow.Upon.callB hj ((impl_within W s.node x.vs.length (x.nodes - 1)).mono fun e w' h => ⟨h.1, h.2 ▸ Below.refl _ _⟩)) ?_)); refine Grow.lex_norm (fun K hK => ?_); go_simp; refine hK _ ?_; clear hK K)
    refine Grow.lex_nil (fun W hj => ?_)
    have HB2 := Aside0.mk (bel_call HB1.out hj.out) ; have HS2 := Aside0.mk (blk_below HS1.out hj.out) ; have HC2 := Aside0.mk (blk_below HC1.out hj.out) ; have HI2 := Aside0.mk (blk_below HI1.out hj.out) ; clear hj z0 z1 z2 z3 z4 z5 z6 z7 z8 y0 y1 y2
    rw [show inB s.node x.vs.length (x.nodes - 1) = x.stop s.node from rfl]
    cases hst : x.stop s.node with
    | false =>
      have HL := Aside0.mk (show s.ok c x v = false by rw [GR.out, HPL.out, hst]; simp); clear hst
      obtain ⟨s1, s2⟩ := lay (Below.refl _ _) HS2.out
      obtain ⟨c1, c2⟩ := lay (Below.refl _ _) HC2.out
      obtain ⟨i1, i2⟩ := lay (Below.refl _ _) HI2.out
      go_wp2
      go_ret
      exact ⟨by rw [HL.out]; rfl, HB2.out⟩
    | true =>
      have GPL := Aside0.mk (show placeOk x v s.pos s.node = true by rw [HPL.out]; exact hst); clear hst
      obtain ⟨s1, s2⟩ := lay (Below.refl _ _) HS2.out
      obtain ⟨c1, c2⟩ := lay (Below.refl _ _) HC2.out
      obtain ⟨i1, i2⟩ := lay (Below.refl _ _) HI2.out
      go_wp2_with fail
      clear s1 s2 c1 c2 i1 i2
      go_at_call 79
      refine (impl_within _ _ _ _).mono ?_
      rintro e w' ⟨rfl, rfl⟩
      cases hq : inB s.time 0 1000000000 with
      | false =>
        have HL := Aside0.mk (show s.ok c x v = false by rw [GR.out, hq]; simp); clear hq
        obtain ⟨s1, s2⟩ := lay (Below.refl _ _) HS2.out
        obtain ⟨c1, c2⟩ := lay (Below.refl _ _) HC2.out
        obtain ⟨i1, i2⟩ := lay (Below.refl _ _) HI2.out
        go_wp2
        go_ret
        exact ⟨by rw [HL.out]; rfl, HB2.out⟩
      | true =>
      have GT := Aside0.mk hq; clear hq
      obtain ⟨s1, s2⟩ := lay (Below.refl _ _) HS2.out
      obtain ⟨c1, c2⟩ := lay (Below.refl _ _) HC2.out
      obtain ⟨i1, i2⟩ := lay (Below.refl _ _) HI2.out
      go_wp2_with fail
      clear s1 s2 c1 c2 i1 i2
      go_at_call 79
      refine (impl_within _ _ _ _).mono ?_
      rintro e w' ⟨rfl, rfl⟩
      cases hq : inB s.dist 0 1000000000 with
      | false =>
        have HL := Aside0.mk (show s.ok c x v = false by rw [GR.out, hq]; simp); clear hq
        obtain ⟨s1, s2⟩ := lay (Below.refl _ _) HS2.out
        obtain ⟨c1, c2⟩ := lay (Below.refl _ _) HC2.out
        obtain ⟨i1, i2⟩ := lay (Below.refl _ _) HI2.out
        go_wp2
        go_ret
        exact ⟨by rw [HL.out]; rfl, HB2.out⟩
      | true =>
      have GD := Aside0.mk hq; clear hq
      obtain ⟨s1, s2⟩ := lay (Below.refl _ _) HS2.out
      obtain ⟨c1, c2⟩ := lay (Below.refl _ _) HC2.out
      obtain ⟨i1, i2⟩ := lay (Below.refl _ _) HI2.out
      go_wp2_with fail
      clear s1 s2 c1 c2 i1 i2
      go_at_call 79
      refine (impl_within _ _ _ _).mono ?_
      rintro e w' ⟨rfl, rfl⟩
      cases hq : inB s.load (-1000000000) 1000000000 with
      | false =>
        have HL := Aside0.mk (show s.ok c x v = false by rw [GR.out, hq]; simp); clear hq
        obtain ⟨s1, s2⟩ := lay (Below.refl _ _) HS2.out
        obtain ⟨c1, c2⟩ := lay (Below.refl _ _) HC2.out
        obtain ⟨i1, i2⟩ := lay (Below.refl _ _) HI2.out
        go_wp2
        go_ret
        exact ⟨by rw [HL.out]; rfl, HB2.out⟩
      | true =>
      have GL := Aside0.mk hq; clear hq
      cases hq : decide ((s.s0.length : Int) = (x.qs.length : Int)) with
      | false =>
        have hqq : ((s.s0.length : Int) == (x.qs.length : Int)) = false := beq_eq_false_iff_ne.2 (of_decide_eq_false hq)
        have hqn : ((s.s0.length : Int) != (x.qs.length : Int)) = true := by simp only [bne, hqq]; rfl
        have HL := Aside0.mk (show s.ok c x v = false by rw [GR.out, hq]; simp)
        obtain ⟨s1, s2⟩ := lay (Below.refl _ _) HS2.out
        obtain ⟨c1, c2⟩ := lay (Below.refl _ _) HC2.out
        obtain ⟨i1, i2⟩ := lay (Below.refl _ _) HI2.out
        go_wp2
        go_ret
        exact ⟨by rw [HL.out]; rfl, HB2.out⟩
      | true =>
      have hqq0 : ((s.s0.length : Int) == (x.qs.length : Int)) = true := beq_iff_eq.2 (of_decide_eq_true hq)
      have hqn0 : ((s.s0.length : Int) != (x.qs.length : Int)) = false := by simp only [bne, hqq0]; rfl
      have GE0 := Aside0.mk hq; clear hq
      have hqr0 : decide ((s.s0.length : Int) = (x.qs.length : Int)) = true := GE0.out
      cases hq : decide ((s.s1.length : Int) = c.regs) with
      | false =>
        have hqq : ((s.s1.length : Int) == c.regs) = false := beq_eq_false_iff_ne.2 (of_decide_eq_false hq)
        have hqn : ((s.s1.length : Int) != c.regs) = true := by simp only [bne, hqq]; rfl
        have HL := Aside0.mk (show s.ok c x v = false by rw [GR.out, hq]; simp)
        obtain ⟨s1, s2⟩ := lay (Below.refl _ _) HS2.out
        obtain ⟨c1, c2⟩ := lay (Below.refl _ _) HC2.out
        obtain ⟨i1, i2⟩ := lay (Below.refl _ _) HI2.out
        go_wp2
        go_ret
        exact ⟨by rw [HL.out]; rfl, HB2.out⟩
      | true =>
      have hqq1 : ((s.s1.length : Int) == c.regs) = true := beq_iff_eq.2 (of_decide_eq_true hq)
      have hqn1 : ((s.s1.length : Int) != c.regs) = false := by simp only [bne, hqq1]; rfl
      have GE1 := Aside0.mk hq; clear hq
      have hqr1 : decide ((s.s1.length : Int) = c.regs) = true := GE1.out
      cases hq : decide ((s.s2.length : Int) = c.slots * (x.qs.length : Int)) with
      | false =>
        have hqq : ((s.s2.length : Int) == c.slots * (x.qs.length : Int)) = false := beq_eq_false_iff_ne.2 (of_decide_eq_false hq)
        have hqn : ((s.s2.length : Int) != c.slots * (x.qs.length : Int)) = true := by simp only [bne, hqq]; rfl
        have HL := Aside0.mk (show s.ok c x v = false by rw [GR.out, hq]; simp)
        obtain ⟨s1, s2⟩ := lay (Below.refl _ _) HS2.out
        obtain ⟨c1, c2⟩ := lay (Below.refl _ _) HC2.out
        obtain ⟨i1, i2⟩ := lay (Below.refl _ _) HI2.out
        go_wp2
        go_ret
        exact ⟨by rw [HL.out]; rfl, HB2.out⟩
      | true =>
      have hqq2 : ((s.s2.length : Int) == c.slots * (x.qs.length : Int)) = true := beq_iff_eq.2 (of_decide_eq_true hq)
      have hqn2 : ((s.s2.length : Int) != c.slots * (x.qs.length : Int)) = false := by simp only [bne, hqq2]; rfl
      have GE2 := Aside0.mk hq; clear hq
      have hqr2 : decide ((s.s2.length : Int) = c.slots * (x.qs.length : Int)) = true := GE2.out
      obtain ⟨s1, s2⟩ := lay (Below.refl _ _) HS2.out
      obtain ⟨c1, c2⟩ := lay (Below.refl _ _) HC2.out
      obtain ⟨i1, i2⟩ := lay (Below.refl _ _) HI2.out
      go_wp2_with fail
      clear s1 s2 c1 c2 i1 i2
      go_at_call 99
      refine (impl_capped _ S1 g1 s.s1 (Kd.C_below HS.out.2.1 HB2.out)).mono ?_
      rintro e w3 ⟨rfl, hb⟩
      have HB3 := Aside0.mk (bel_call HB2.out hb) ; have HS3 := Aside0.mk (blk_below HS2.out hb) ; have HC3 := Aside0.mk (blk_below HC2.out hb) ; have HI3 := Aside0.mk (blk_below HI2.out hb) ; clear hb
      cases hq : allIn s.s1 (-1000000000) 1000000000 with
      | false =>
        have HL := Aside0.mk (show s.ok c x v = false by rw [GR.out, hq]; simp); clear hq
        obtain ⟨s1, s2⟩ := lay (Below.refl _ _) HS3.out
        obtain ⟨c1, c2⟩ := lay (Below.refl _ _) HC3.out
        obtain ⟨i1, i2⟩ := lay (Below.refl _ _) HI3.out
        go_wp2
        go_ret
        exact ⟨by rw [HL.out]; rfl, HB3.out⟩
      | true =>
      have GA1 := Aside0.mk hq; clear hq
      obtain ⟨s1, s2⟩ := lay (Below.refl _ _) HS3.out
      obtain ⟨c1, c2⟩ := lay (Below.refl _ _) HC3.out
      obtain ⟨i1, i2⟩ := lay (Below.refl _ _) HI3.out
      go_wp2_with fail
      clear s1 s2 c1 c2 i1 i2
      go_at_call 99
      refine (impl_capped _ S2 g2 s.s2 (Kd.C_below HS.out.2.2 HB3.out)).mono ?_
      rintro e w4 ⟨rfl, hb⟩
      have HB4 := Aside0.mk (bel_call HB3.out hb) ; have HS4 := Aside0.mk (blk_below HS3.out hb) ; have HC4 := Aside0.mk (blk_below HC3.out hb) ; have HI4 := Aside0.mk (blk_below HI3.out hb) ; clear hb
      cases hq : allIn s.s2 (-1000000000) 1000000000 with
      | false =>
        have HL := Aside0.mk (show s.ok c x v = false by rw [GR.out, hq]; simp); clear hq
        obtain ⟨s1, s2⟩ := lay (Below.refl _ _) HS4.out
        obtain ⟨c1, c2⟩ := lay (Below.refl _ _) HC4.out
        obtain ⟨i1, i2⟩ := lay (Below.refl _ _) HI4.out
        go_wp2
        go_ret
        exact ⟨by rw [HL.out]; rfl, HB4.out⟩
      | true =>
      have GA2 := Aside0.mk hq; clear hq
      obtain ⟨s1, s2⟩ := lay (Below.refl _ _) HS4.out
      obtain ⟨c1, c2⟩ := lay (Below.refl _ _) HC4.out
      obtain ⟨i1, i2⟩ := lay (Below.refl _ _) HI4.out
      go_wp2_with fail
      clear s1 s2 c1 c2 i1 i2
      go_at_call 81
      refine (contains_in _ 100 HEG.out 0 2 S0 g0 s.s0 (Kd.C_below HS.out.1 HB4.out) impl_sgood1).mono ?_
      rintro e w5 ⟨rfl, hb⟩
      have HB5 := Aside0.mk (bel_call HB4.out hb) ; have HS5 := Aside0.mk (blk_below HS4.out hb) ; have HC5 := Aside0.mk (blk_below HC4.out hb) ; have HI5 := Aside0.mk (blk_below HI4.out hb) ; clear hb
      cases hq : allIn s.s0 0 2 with
      | false =>
        have HL := Aside0.mk (show s.ok c x v = false by rw [GR.out, hq]; simp); clear hq
        obtain ⟨s1, s2⟩ := lay (Below.refl _ _) HS5.out
        obtain ⟨c1, c2⟩ := lay (Below.refl _ _) HC5.out
        obtain ⟨i1, i2⟩ := lay (Below.refl _ _) HI5.out
        go_wp2
        go_ret
        exact ⟨by rw [HL.out]; rfl, HB5.out⟩
      | true =>
      have GA0 := Aside0.mk hq; clear hq
      have HL := Aside0.mk (show s.ok c x v = true by rw [GR.out, GP.out, GPL.out, GT.out, GD.out, GL.out, GE0.out, GA0.out, GE1.out, GA1.out, GE2.out, GA2.out]; rfl)
      obtain ⟨s1, s2⟩ := lay (Below.refl _ _) HS5.out
      obtain ⟨c1, c2⟩ := lay (Below.refl _ _) HC5.out
      obtain ⟨i1, i2⟩ := lay (Below.refl _ _) HI5.out
      go_wp2
      go_ret
      exact ⟨by rw [HL.out]; rfl, HB5.out⟩
  have p6 : decide (0 < s.pos) = false := decide_eq_false hp
  have p9 : (s.pos == 0) = true := beq_iff_eq.2 (by have := HPP.out; omega)
  have p10 : decide (s.pos = 0) = true := decide_eq_true (by have := HPP.out; omega)
  have HPL := Aside0.mk (show placeOk x v s.pos s.node = decide (s.node = v) by unfold placeOk; rw [if_neg hp]); clear hp
  by_cases hv : s.node = v
  rotate_left
  · have p7 : (s.node == v) = false := beq_eq_false_iff_ne.2 hv
    have p8 : decide (s.node = v) = false := decide_eq_false hv
    have p11 : (s.node != v) = true := by simp only [bne, p7]; rfl
    have HL := Aside0.mk (show s.ok c x v = false by rw [GR.out, HPL.out, p8]; simp); clear hv
    obtain ⟨s1, s2⟩ := lay (Below.refl _ _) HS1.out
    obtain ⟨c1, c2⟩ := lay (Below.refl _ _) HC1.out
    obtain ⟨i1, i2⟩ := lay (Below.refl _ _) HI1.out
    go_wp2
    go_ret
    exact ⟨by rw [HL.out]; rfl, HB1.out⟩
  have p7 : (s.node == v) = true := beq_iff_eq.2 hv
  have p8 : decide (s.node = v) = true := decide_eq_true hv
  have p11 : (s.node != v) = false := by simp only [bne, p7]; rfl
  have GPL := Aside0.mk (show placeOk x v s.pos s.node = true by rw [HPL.out]; exact p8); have HVV := Aside0.mk hv; clear hv
  obtain ⟨s1, s2⟩ := lay (Below.refl _ _) HS1.out
  obtain ⟨c1, c2⟩ := lay (Below.refl _ _) HC1.out
  obtain ⟨i1, i2⟩ := lay (Below.refl _ _) HI1.out
  go_wp2_with fail
  clear s1 s2 c1 c2 i1 i2
  have z0 := blk_cell HS1.out 0 ; have z1 := blk_cell HS1.out 1 ; have z2 := blk_cell HS1.out 2 ; have z3 := blk_cell HS1.out 3 ; have z4 := blk_cell HS1.out 4 ; have z5 := blk_cell HS1.out 5 ; have z6 := blk_cell HS1.out 6 ; have z7 := blk_cell HS1.out 7 ; have z8 := blk_cell HS1.out 8 ; have y0 := blk_cell HI1.out 0 ; have y1 := blk_cell HI1.out 1 ; have y2 := blk_cell HI1.out 2
  simp only [List.getElem?_toArray, List.getElem?_cons_zero, List.getElem?_cons_succ] at z0 z1 z2 z3 z4 z5 z6 z7 z8 y0 y1 y2
  have HXS2 := Aside0.mk (And.intro HXS.out.1 HXS.out.2.1)
  refine Grow.wp_region_growB (by kernel_rfl) (by kernel_rfl) ?_
  repeat ((first | (refine Grow.lex_skip (by rfl) ?_) | (refine Grow.lex_do _ (by rfl) (by intro W hj; have t0 := pw_cell_below hj.out z0 ; have t2 := pw_cell_below hj.out z2 ; have r0 := pw_cell_below hj.out y0 ; have r1 := pw_cell_below hj.out y1 ; have r2 := pw_cell_below hj.out y2; go_simp; first | exact Grow.Upon.val hj | (have cc := impl_nodes W B0 B1 B2 x.vs.length x.qs.length x.rs.length d0 d1 d2 HXS2.out.1 HXS2.out.2; rw [show (x.vs.length : Int) + 2 * (x.qs.length : Int) = x.nodes from rfl] at cc; with_reducible exact Grow.Upon.callB hj cc) | with_reducible exact Grow.Upon.callB hj (impl_vehicles W B0 B1 B2 x.vs.length x.qs.length x.rs.length d0 d1 d2 HXS2.out.1) | with_reducible exact Grow.Upon.callB hj ((impl_within W s.node x.vs.length (x.nodes - 1)).mono fun e w' h => ⟨h.1, h.2 ▸ Below.refl _ _⟩)) ?_)); refine Grow.lex_norm (fun K hK => ?_); go_simp; refine hK _ ?_; clear hK K)
  refine Grow.lex_nil (fun W hj => ?_)
  have HB2 := Aside0.mk (bel_call HB1.out hj.out) ; have HS2 := Aside0.mk (blk_below HS1.out hj.out) ; have HC2 := Aside0.mk (blk_below HC1.out hj.out) ; have HI2 := Aside0.mk (blk_below HI1.out hj.out) ; clear hj z0 z1 z2 z3 z4 z5 z6 z7 z8 y0 y1 y2
  obtain ⟨s1, s2⟩ := lay (Below.refl _ _) HS2.out
  obtain ⟨c1, c2⟩ := lay (Below.refl _ _) HC2.out
  obtain ⟨i1, i2⟩ := lay (Below.refl _ _) HI2.out
  go_wp2_with fail
  clear s1 s2 c1 c2 i1 i2
  go_at_call 79
  refine (impl_within _ _ _ _).mono ?_
  rintro e w' ⟨rfl, rfl⟩
  cases hq : inB s.time 0 1000000000 with
  | false =>
    have HL := Aside0.mk (show s.ok c x v = false by rw [GR.out, hq]; simp); clear hq
    obtain ⟨s1, s2⟩ := lay (Below.refl _ _) HS2.out
    obtain ⟨c1, c2⟩ := lay (Below.refl _ _) HC2.out
    obtain ⟨i1, i2⟩ := lay (Below.refl _ _) HI2.out
    go_wp2
    go_ret
    exact ⟨by rw [HL.out]; rfl, HB2.out⟩
  | true =>
  have GT := Aside0.mk hq; clear hq
  obtain ⟨s1, s2⟩ := lay (Below.refl _ _) HS2.out
  obtain ⟨c1, c2⟩ := lay (Below.refl _ _) HC2.out
  obtain ⟨i1, i2⟩ := lay (Below.refl _ _) HI2.out
  go_wp2_with fail
  clear s1 s2 c1 c2 i1 i2
  go_at_call 79
  refine (impl_within _ _ _ _).mono ?_
  rintro e w' ⟨rfl, rfl⟩
  cases hq : inB s.dist 0 1000000000 with
  | false =>
    have HL := Aside0.mk (show s.ok c x v = false by rw [GR.out, hq]; simp); clear hq
    obtain ⟨s1, s2⟩ := lay (Below.refl _ _) HS2.out
    obtain ⟨c1, c2⟩ := lay (Below.refl _ _) HC2.out
    obtain ⟨i1, i2⟩ := lay (Below.refl _ _) HI2.out
    go_wp2
    go_ret
    exact ⟨by rw [HL.out]; rfl, HB2.out⟩
  | true =>
  have GD := Aside0.mk hq; clear hq
  obtain ⟨s1, s2⟩ := lay (Below.refl _ _) HS2.out
  obtain ⟨c1, c2⟩ := lay (Below.refl _ _) HC2.out
  obtain ⟨i1, i2⟩ := lay (Below.refl _ _) HI2.out
  go_wp2_with fail
  clear s1 s2 c1 c2 i1 i2
  go_at_call 79
  refine (impl_within _ _ _ _).mono ?_
  rintro e w' ⟨rfl, rfl⟩
  cases hq : inB s.load (-1000000000) 1000000000 with
  | false =>
    have HL := Aside0.mk (show s.ok c x v = false by rw [GR.out, hq]; simp); clear hq
    obtain ⟨s1, s2⟩ := lay (Below.refl _ _) HS2.out
    obtain ⟨c1, c2⟩ := lay (Below.refl _ _) HC2.out
    obtain ⟨i1, i2⟩ := lay (Below.refl _ _) HI2.out
    go_wp2
    go_ret
    exact ⟨by rw [HL.out]; rfl, HB2.out⟩
  | true =>
  have GL := Aside0.mk hq; clear hq
  cases hq : decide ((s.s0.length : Int) = (x.qs.length : Int)) with
  | false =>
    have hqq : ((s.s0.length : Int) == (x.qs.length : Int)) = false := beq_eq_false_iff_ne.2 (of_decide_eq_false hq)
    have hqn : ((s.s0.length : Int) != (x.qs.length : Int)) = true := by simp only [bne, hqq]; rfl
    have HL := Aside0.mk (show s.ok c x v = false by rw [GR.out, hq]; simp)
    obtain ⟨s1, s2⟩ := lay (Below.refl _ _) HS2.out
    obtain ⟨c1, c2⟩ := lay (Below.refl _ _) HC2.out
    obtain ⟨i1, i2⟩ := lay (Below.refl _ _) HI2.out
    go_wp2
    go_ret
    exact ⟨by rw [HL.out]; rfl, HB2.out⟩
  | true =>
  have hqq0 : ((s.s0.length : Int) == (x.qs.length : Int)) = true := beq_iff_eq.2 (of_decide_eq_true hq)
  have hqn0 : ((s.s0.length : Int) != (x.qs.length : Int)) = false := by simp only [bne, hqq0]; rfl
  have GE0 := Aside0.mk hq; clear hq
  have hqr0 : decide ((s.s0.length : Int) = (x.qs.length : Int)) = true := GE0.out
  cases hq : decide ((s.s1.length : Int) = c.regs) with
  | false =>
    have hqq : ((s.s1.length : Int) == c.regs) = false := beq_eq_false_iff_ne.2 (of_decide_eq_false hq)
    have hqn : ((s.s1.length : Int) != c.regs) = true := by simp only [bne, hqq]; rfl
    have HL := Aside0.mk (show s.ok c x v = false by rw [GR.out, hq]; simp)
    obtain ⟨s1, s2⟩ := lay (Below.refl _ _) HS2.out
    obtain ⟨c1, c2⟩ := lay (Below.refl _ _) HC2.out
    obtain ⟨i1, i2⟩ := lay (Below.refl _ _) HI2.out
    go_wp2
    go_ret
    exact ⟨by rw [HL.out]; rfl, HB2.out⟩
  | true =>
  have hqq1 : ((s.s1.length : Int) == c.regs) = true := beq_iff_eq.2 (of_decide_eq_true hq)
  have hqn1 : ((s.s1.length : Int) != c.regs) = false := by simp only [bne, hqq1]; rfl
  have GE1 := Aside0.mk hq; clear hq
  have hqr1 : decide ((s.s1.length : Int) = c.regs) = true := GE1.out
  cases hq : decide ((s.s2.length : Int) = c.slots * (x.qs.length : Int)) with
  | false =>
    have hqq : ((s.s2.length : Int) == c.slots * (x.qs.length : Int)) = false := beq_eq_false_iff_ne.2 (of_decide_eq_false hq)
    have hqn : ((s.s2.length : Int) != c.slots * (x.qs.length : Int)) = true := by simp only [bne, hqq]; rfl
    have HL := Aside0.mk (show s.ok c x v = false by rw [GR.out, hq]; simp)
    obtain ⟨s1, s2⟩ := lay (Below.refl _ _) HS2.out
    obtain ⟨c1, c2⟩ := lay (Below.refl _ _) HC2.out
    obtain ⟨i1, i2⟩ := lay (Below.refl _ _) HI2.out
    go_wp2
    go_ret
    exact ⟨by rw [HL.out]; rfl, HB2.out⟩
  | true =>
  have hqq2 : ((s.s2.length : Int) == c.slots * (x.qs.length : Int)) = true := beq_iff_eq.2 (of_decide_eq_true hq)
  have hqn2 : ((s.s2.length : Int) != c.slots * (x.qs.length : Int)) = false := by simp only [bne, hqq2]; rfl
  have GE2 := Aside0.mk hq; clear hq
  have hqr2 : decide ((s.s2.length : Int) = c.slots * (x.qs.length : Int)) = true := GE2.out
  obtain ⟨s1, s2⟩ := lay (Below.refl _ _) HS2.out
  obtain ⟨c1, c2⟩ := lay (Below.refl _ _) HC2.out
  obtain ⟨i1, i2⟩ := lay (Below.refl _ _) HI2.out
  go_wp2_with fail
  clear s1 s2 c1 c2 i1 i2
  go_at_call 99
  refine (impl_capped _ S1 g1 s.s1 (Kd.C_below HS.out.2.1 HB2.out)).mono ?_
  rintro e w3 ⟨rfl, hb⟩
  have HB3 := Aside0.mk (bel_call HB2.out hb) ; have HS3 := Aside0.mk (blk_below HS2.out hb) ; have HC3 := Aside0.mk (blk_below HC2.out hb) ; have HI3 := Aside0.mk (blk_below HI2.out hb) ; clear hb
  cases hq : allIn s.s1 (-1000000000) 1000000000 with
  | false =>
    have HL := Aside0.mk (show s.ok c x v = false by rw [GR.out, hq]; simp); clear hq
    obtain ⟨s1, s2⟩ := lay (Below.refl _ _) HS3.out
    obtain ⟨c1, c2⟩ := lay (Below.refl _ _) HC3.out
    obtain ⟨i1, i2⟩ := lay (Below.refl _ _) HI3.out
    go_wp2
    go_ret
    exact ⟨by rw [HL.out]; rfl, HB3.out⟩
  | true =>
  have GA1 := Aside0.mk hq; clear hq
  obtain ⟨s1, s2⟩ := lay (Below.refl _ _) HS3.out
  obtain ⟨c1, c2⟩ := lay (Below.refl _ _) HC3.out
  obtain ⟨i1, i2⟩ := lay (Below.refl _ _) HI3.out
  go_wp2_with fail
  clear s1 s2 c1 c2 i1 i2
  go_at_call 99
  refine (impl_capped _ S2 g2 s.s2 (Kd.C_below HS.out.2.2 HB3.out)).mono ?_
  rintro e w4 ⟨rfl, hb⟩
  have HB4 := Aside0.mk (bel_call HB3.out hb) ; have HS4 := Aside0.mk (blk_below HS3.out hb) ; have HC4 := Aside0.mk (blk_below HC3.out hb) ; have HI4 := Aside0.mk (blk_below HI3.out hb) ; clear hb
  cases hq : allIn s.s2 (-1000000000) 1000000000 with
  | false =>
    have HL := Aside0.mk (show s.ok c x v = false by rw [GR.out, hq]; simp); clear hq
    obtain ⟨s1, s2⟩ := lay (Below.refl _ _) HS4.out
    obtain ⟨c1, c2⟩ := lay (Below.refl _ _) HC4.out
    obtain ⟨i1, i2⟩ := lay (Below.refl _ _) HI4.out
    go_wp2
    go_ret
    exact ⟨by rw [HL.out]; rfl, HB4.out⟩
  | true =>
  have GA2 := Aside0.mk hq; clear hq
  obtain ⟨s1, s2⟩ := lay (Below.refl _ _) HS4.out
  obtain ⟨c1, c2⟩ := lay (Below.refl _ _) HC4.out
  obtain ⟨i1, i2⟩ := lay (Below.refl _ _) HI4.out
  go_wp2_with fail
  clear s1 s2 c1 c2 i1 i2
  go_at_call 81
  refine (contains_in _ 100 HEG.out 0 2 S0 g0 s.s0 (Kd.C_below HS.out.1 HB4.out) impl_sgood1).mono ?_
  rintro e w5 ⟨rfl, hb⟩
  have HB5 := Aside0.mk (bel_call HB4.out hb) ; have HS5 := Aside0.mk (blk_below HS4.out hb) ; have HC5 := Aside0.mk (blk_below HC4.out hb) ; have HI5 := Aside0.mk (blk_below HI4.out hb) ; clear hb
  cases hq : allIn s.s0 0 2 with
  | false =>
    have HL := Aside0.mk (show s.ok c x v = false by rw [GR.out, hq]; simp); clear hq
    obtain ⟨s1, s2⟩ := lay (Below.refl _ _) HS5.out
    obtain ⟨c1, c2⟩ := lay (Below.refl _ _) HC5.out
    obtain ⟨i1, i2⟩ := lay (Below.refl _ _) HI5.out
    go_wp2
    go_ret
    exact ⟨by rw [HL.out]; rfl, HB5.out⟩
  | true =>
  have GA0 := Aside0.mk hq; clear hq
  have HL := Aside0.mk (show s.ok c x v = true by rw [GR.out, GP.out, GPL.out, GT.out, GD.out, GL.out, GE0.out, GA0.out, GE1.out, GA1.out, GE2.out, GA2.out]; rfl)
  obtain ⟨s1, s2⟩ := lay (Below.refl _ _) HS5.out
  obtain ⟨c1, c2⟩ := lay (Below.refl _ _) HC5.out
  obtain ⟨i1, i2⟩ := lay (Below.refl _ _) HI5.out
  go_wp2
  go_ret
  exact ⟨by rw [HL.out]; rfl, HB5.out⟩
set_option maxRecDepth 100000 in
set_option maxHeartbeats 4000000 in
theorem impl_ValidState (u v1 t : Value) (c : Code) (hc : ReadCode w u c) (x : Inst) (hx : ReadInst w v1 x) (v : Int) (s : St) (hs : ReadState w t s) (hn : s.small) : Calls Tryz.prog 34 #[u, v1, .int .i64 v, t] w fun e w' => e = .returned (.bool (stateOk c x v s)) ∧ Below w.heap.size w w' := by
  have HX := Aside0.mk (And.intro hc (And.intro hx hs))
  obtain ⟨A0, c0, A1, c1, A2, c2, rfl, a0, a1, a2⟩ := hc
  obtain ⟨B0, d0, B1, d1, B2, d2, rfl, b0, b1, b2⟩ := hx
  obtain ⟨S0, g0, S1, g1, S2, g2, rfl, s0, s1, s2⟩ := hs
  have HS := Aside0.mk (And.intro s0 (And.intro s1 s2))
  clear a0 a1 a2 b0 b1 b2 s0 s1 s2
  have HN := Aside0.mk hn; clear hn
  have HB0 := Aside0.mk (below_alloc (below_alloc (below_alloc (Below.refl w.heap.size w) (.cells #[.int .i64 c.regs, .int .i64 c.slots, .slice A0 c.b0.length c0, .slice A1 c.b1.length c1, .slice A2 c.b2.length c2] 41)) (.cells #[.slice B0 x.vs.length d0, .slice B1 x.qs.length d1, .slice B2 x.rs.length d2] 47)) (.cells #[.int .i64 s.pos, .int .i64 s.rule, .int .i64 s.node, .int .i64 s.time, .int .i64 s.dist, .int .i64 s.load, .slice S0 s.s0.length g0, .slice S1 s.s1.length g1, .slice S2 s.s2.length g2] 49))
  have h := al_new w (.cells #[.int .i64 c.regs, .int .i64 c.slots, .slice A0 c.b0.length c0, .slice A1 c.b1.length c1, .slice A2 c.b2.length c2] 41)
  replace h := blk_box h (.cells #[.slice B0 x.vs.length d0, .slice B1 x.qs.length d1, .slice B2 x.rs.length d2] 47)
  replace h := blk_box h (.cells #[.int .i64 s.pos, .int .i64 s.rule, .int .i64 s.node, .int .i64 s.time, .int .i64 s.dist, .int .i64 s.load, .slice S0 s.s0.length g0, .slice S1 s.s1.length g1, .slice S2 s.s2.length g2] 49)
  have HC0 := Aside0.mk h; clear h
  have h := al_new (w.alloc (.cells #[.int .i64 c.regs, .int .i64 c.slots, .slice A0 c.b0.length c0, .slice A1 c.b1.length c1, .slice A2 c.b2.length c2] 41)) (.cells #[.slice B0 x.vs.length d0, .slice B1 x.qs.length d1, .slice B2 x.rs.length d2] 47)
  simp only [al_size] at h
  replace h := blk_box h (.cells #[.int .i64 s.pos, .int .i64 s.rule, .int .i64 s.node, .int .i64 s.time, .int .i64 s.dist, .int .i64 s.load, .slice S0 s.s0.length g0, .slice S1 s.s1.length g1, .slice S2 s.s2.length g2] 49)
  have HI0 := Aside0.mk h; clear h
  have h := al_new ((w.alloc (.cells #[.int .i64 c.regs, .int .i64 c.slots, .slice A0 c.b0.length c0, .slice A1 c.b1.length c1, .slice A2 c.b2.length c2] 41)).alloc (.cells #[.slice B0 x.vs.length d0, .slice B1 x.qs.length d1, .slice B2 x.rs.length d2] 47)) (.cells #[.int .i64 s.pos, .int .i64 s.rule, .int .i64 s.node, .int .i64 s.time, .int .i64 s.dist, .int .i64 s.load, .slice S0 s.s0.length g0, .slice S1 s.s1.length g1, .slice S2 s.s2.length g2] 49)
  simp only [al_size] at h
  have HS0 := Aside0.mk h; clear h
  go_enter Tryz.func34, Tryz.ntmps34
  go_wp2_with fail
  go_at_call 43
  refine (impl_goodAsk _ _ _ c (HX.out.1.below HB0.out) x (HX.out.2.1.below HB0.out) v).mono ?_
  rintro e w1 ⟨rfl, hb⟩
  have HB1 := Aside0.mk (bel_call HB0.out hb) ; have HC1 := Aside0.mk (blk_below HC0.out hb) ; have HI1 := Aside0.mk (blk_below HI0.out hb) ; have HS1 := Aside0.mk (blk_below HS0.out hb) ; clear hb
  cases hq : askOk c x v with
  | false =>
    have HL := Aside0.mk (show stateOk c x v s = false by unfold stateOk; rw [hq]; rfl); clear hq
    obtain ⟨c1, c2⟩ := lay (Below.refl _ _) HC1.out
    obtain ⟨i1, i2⟩ := lay (Below.refl _ _) HI1.out
    obtain ⟨s1, s2⟩ := lay (Below.refl _ _) HS1.out
    go_wp2
    go_ret
    exact ⟨by rw [HL.out]; rfl, HB1.out⟩
  | true =>
  have G0 := Aside0.mk hq; clear hq
  have HL := Aside0.mk (show stateOk c x v s = s.ok c x v by unfold stateOk; rw [G0.out]; rfl)
  have hh := G0.out; unfold askOk at hh; simp only [Bool.and_eq_true] at hh; have HH := Aside0.mk hh.1; clear hh
  obtain ⟨c1, c2⟩ := lay (Below.refl _ _) HC1.out
  obtain ⟨i1, i2⟩ := lay (Below.refl _ _) HI1.out
  obtain ⟨s1, s2⟩ := lay (Below.refl _ _) HS1.out
  go_wp2_with fail
  clear c1 c2 i1 i2 s1 s2
  go_at_call 65
  refine (impl_sgood _ _ _ _ c (HX.out.1.below HB1.out) x (HX.out.2.1.below HB1.out) v s (HX.out.2.2.below HB1.out) HN.out HH.out.1 HH.out.2).mono ?_
  rintro e w2 ⟨rfl, hb⟩
  have HB2 := Aside0.mk (bel_call HB1.out hb) ; have HC2 := Aside0.mk (blk_below HC1.out hb) ; have HI2 := Aside0.mk (blk_below HI1.out hb) ; have HS2 := Aside0.mk (blk_below HS1.out hb) ; clear hb
  obtain ⟨c1, c2⟩ := lay (Below.refl _ _) HC2.out
  obtain ⟨i1, i2⟩ := lay (Below.refl _ _) HI2.out
  obtain ⟨s1, s2⟩ := lay (Below.refl _ _) HS2.out
  go_wp2
  go_ret
  exact ⟨by rw [HL.out]; rfl, HB2.out⟩
end
end Go.Proofs.YtlhpbpkefkabgaaGreat.L1
