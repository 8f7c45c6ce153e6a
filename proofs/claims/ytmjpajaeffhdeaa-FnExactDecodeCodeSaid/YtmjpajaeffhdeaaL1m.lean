/- Travel of the reference and of the program; the law FnExactTravel's own walk. -/
import Derived.Test.YtmjpajaeffhdeaaL1k
import Derived.Test.YtmjpajaeffhdeaaL1h
namespace Go.Proofs.Ytmjpajaeffhdeaa.L1
open Go.RowKit Go.Proofs.YtmjpajaeffhdeaaW.PrintWords Go.Proofs.Ytmjpajaeffhdeaa.B
set_option linter.unusedVariables false
set_option linter.unusedSimpArgs false
attribute [local go_sem] mk_cell mk_frozen
def Inst.travel (x : Inst) (a b : Int) : Int := if x.valid && inB a 0 (x.nodes - 1) && inB b 0 (x.nodes - 1) then x.leg a b else -1
theorem inB_iff (x lo hi : Int) : inB x lo hi = true ↔ lo ≤ x ∧ x ≤ hi := by unfold inB; simp
theorem Place.near_of {p : Place} (h : p.good = true) : -10000 ≤ p.x ∧ p.x ≤ 10000 ∧ -10000 ≤ p.y ∧ p.y ≤ 10000 := by
  unfold Place.good at h
  simp only [Bool.and_eq_true, inB_iff] at h
  omega
theorem Inst.near_of {x : Inst} (h : x.valid = true) : x.near := by
  have hv : ∀ k, (x.vs.getD k zV).home.good = true := fun k => by
    rcases Nat.lt_or_ge k x.vs.length with hk | hk
    · cases hh : (x.vs.getD k zV).good with
      | true => unfold Veh.good at hh; simp only [Bool.and_eq_true] at hh; exact hh.2
      | false => rw [Inst.valid_vs hk hh] at h; cases h
    · rw [List.getD_eq_getElem?_getD, List.getElem?_eq_none hk]; decide
  have hq : ∀ k, (x.qs.getD k zQ).from_.good = true ∧ (x.qs.getD k zQ).to_.good = true := fun k => by
    rcases Nat.lt_or_ge k x.qs.length with hk | hk
    · cases hh : (x.qs.getD k zQ).good with
      | true => unfold Req.good at hh; simp only [Bool.and_eq_true] at hh; exact ⟨hh.1.2, hh.2⟩
      | false => rw [Inst.valid_qs hk hh] at h; cases h
    · rw [List.getD_eq_getElem?_getD, List.getElem?_eq_none hk]; decide
  intro n
  unfold Inst.placeAt
  split
  · exact Place.near_of (hv _)
  · split
    · exact Place.near_of (hq _).1
    · exact Place.near_of (hq _).2
theorem Inst.few_of {x : Inst} (h : x.valid = true) : x.vs.length ≤ 64 ∧ x.qs.length ≤ 1000 ∧ x.rs.length ≤ 4000 := by
  have : x.few = true := by
    cases hh : x.few with
    | true => rfl
    | false => rw [Inst.valid_few hh] at h; cases h
  unfold Inst.few at this
  simp at this
  omega
section
variable (w : World)
set_option maxRecDepth 100000 in
set_option maxHeartbeats 2000000 in
theorem spec_Travel (v : Value) (x : Inst) (hr : ReadInst w v x) (a b : Int) : Calls Try.prog 42 #[v, .int .i64 a, .int .i64 b] w fun e w' => e = .returned (.int .i64 (x.travel a b)) ∧ Below w.heap.size w w' := by
  have HX := Aside0.mk hr
  obtain ⟨A0, c0, A1, c1, A2, c2, rfl, r0, r1, r2⟩ := hr
  clear r0 r1 r2
  have HB := Aside0.mk (below_alloc (Below.refl w.heap.size w) (.cells #[.slice A0 x.vs.length c0, .slice A1 x.qs.length c1, .slice A2 x.rs.length c2] 55)); have HA := Aside0.mk (al_new w (.cells #[.slice A0 x.vs.length c0, .slice A1 x.qs.length c1, .slice A2 x.rs.length c2] 55))
  go_enter Try.func42, Try.ntmps42
  go_wp2_with fail
  go_at_call 38
  refine (spec_validInst _ _ x (HX.out.below HB.out)).mono ?_
  rintro e w1 ⟨rfl, hb⟩
  have HB1 := Aside0.mk (bel_call HB.out hb); have HA1 := Aside0.mk (blk_below HA.out hb); clear hb
  cases hv : x.valid with
  | false =>
    have HV := Aside0.mk (show x.travel a b = -1 by unfold Inst.travel; rw [hv]; rfl); clear hv
    go_wp2
    go_ret
    exact ⟨by rw [HV.out]; rfl, HB1.out⟩
  | true =>
    have HV := Aside0.mk hv; clear hv
    obtain ⟨f0, f1, f2⟩ := Inst.few_of HV.out
    have HN := Aside0.mk (show 0 ≤ x.nodes ∧ x.nodes ≤ 10000 by unfold Inst.nodes; omega)
    have q0 : IntKind.i64.wrap (x.nodes - 1) = x.nodes - 1 := IntWalk.i64_in _ (by have := HN.out; omega)
    obtain ⟨b1, b2⟩ := lay (Below.refl _ _) HA1.out
    go_wp2_with fail
    clear b1 b2
    go_at_call 81
    refine Calls.mono (show Calls Try.prog _ _ _ (fun e w' => e = .returned (.int .i64 x.nodes) ∧ _) from spec_nodes _ A0 A1 A2 x.vs.length x.qs.length x.rs.length c0 c1 c2 (by omega) (by omega)) ?_
    rintro e w2 ⟨rfl, hb⟩
    have HB2 := Aside0.mk (bel_call HB1.out hb); have HA2 := Aside0.mk (blk_below HA1.out hb); clear hb
    go_wp2_with fail
    go_at_call 56
    refine (spec_l1In _ _ _ _).mono ?_
    rintro e w' ⟨rfl, rfl⟩
    cases ha : inB a 0 (x.nodes - 1) with
    | false =>
      have HL := Aside0.mk (show x.travel a b = -1 by unfold Inst.travel; rw [ha]; simp); clear ha
      go_wp2
      go_ret
      exact ⟨by rw [HL.out]; rfl, HB2.out⟩
    | true =>
      have HIa := Aside0.mk ha; clear ha
      obtain ⟨b1, b2⟩ := lay (Below.refl _ _) HA2.out
      go_wp2_with fail
      clear b1 b2
      go_at_call 81
      refine Calls.mono (show Calls Try.prog _ _ _ (fun e w' => e = .returned (.int .i64 x.nodes) ∧ _) from spec_nodes _ A0 A1 A2 x.vs.length x.qs.length x.rs.length c0 c1 c2 (by omega) (by omega)) ?_
      rintro e w3 ⟨rfl, hb⟩
      have HB3 := Aside0.mk (bel_call HB2.out hb); have HA3 := Aside0.mk (blk_below HA2.out hb); clear hb
      go_wp2_with fail
      go_at_call 56
      refine (spec_l1In _ _ _ _).mono ?_
      rintro e w' ⟨rfl, rfl⟩
      cases hb : inB b 0 (x.nodes - 1) with
      | false =>
        have HL := Aside0.mk (show x.travel a b = -1 by unfold Inst.travel; rw [hb]; simp); clear hb
        go_wp2
        go_ret
        exact ⟨by rw [HL.out]; rfl, HB3.out⟩
      | true =>
        have HL := Aside0.mk (show x.travel a b = x.leg a b by unfold Inst.travel; rw [HV.out, HIa.out, hb]; rfl)
        have ha0 := (inB_iff _ _ _).1 HIa.out; have hb0 := (inB_iff _ _ _).1 hb; clear hb
        have HAB := Aside0.mk (show 0 ≤ a ∧ a < x.nodes ∧ 0 ≤ b ∧ b < x.nodes by omega); clear ha0 hb0
        obtain ⟨b1, b2⟩ := lay (Below.refl _ _) HA3.out
        go_wp2_with fail
        clear b1 b2
        go_at_call 94
        refine (spec_leg _ _ x (HX.out.below HB3.out) f0 f1 f2 (Inst.near_of HV.out) a b HAB.out.1 HAB.out.2.1 HAB.out.2.2.1 HAB.out.2.2.2).mono ?_
        rintro e w4 ⟨rfl, hb⟩
        have HB4 := Aside0.mk (bel_call HB3.out hb); have HA4 := Aside0.mk (blk_below HA3.out hb); clear hb
        go_wp2
        go_ret
        exact ⟨by rw [HL.out]; rfl, HB4.out⟩
set_option maxRecDepth 100000 in
set_option maxHeartbeats 2000000 in
theorem impl_Travel (v : Value) (x : Inst) (hr : ReadInst w v x) (a b : Int) : Calls Try.prog 43 #[v, .int .i64 a, .int .i64 b] w fun e w' => e = .returned (.int .i64 (x.travel a b)) ∧ Below w.heap.size w w' := by
  have HX := Aside0.mk hr
  obtain ⟨A0, c0, A1, c1, A2, c2, rfl, r0, r1, r2⟩ := hr
  clear r0 r1 r2
  have HB := Aside0.mk (below_alloc (Below.refl w.heap.size w) (.cells #[.slice A0 x.vs.length c0, .slice A1 x.qs.length c1, .slice A2 x.rs.length c2] 55)); have HA := Aside0.mk (al_new w (.cells #[.slice A0 x.vs.length c0, .slice A1 x.qs.length c1, .slice A2 x.rs.length c2] 55))
  go_enter Try.func43, Try.ntmps43
  go_wp2_with fail
  go_at_call 40
  refine (impl_validInst _ _ x (HX.out.below HB.out)).mono ?_
  rintro e w1 ⟨rfl, hb⟩
  have HB1 := Aside0.mk (bel_call HB.out hb); have HA1 := Aside0.mk (blk_below HA.out hb); clear hb
  cases hv : x.valid with
  | false =>
    have HV := Aside0.mk (show x.travel a b = -1 by unfold Inst.travel; rw [hv]; rfl); clear hv
    go_wp2
    go_ret
    exact ⟨by rw [HV.out]; rfl, HB1.out⟩
  | true =>
    have HV := Aside0.mk hv; clear hv
    obtain ⟨f0, f1, f2⟩ := Inst.few_of HV.out
    have HN := Aside0.mk (show 0 ≤ x.nodes ∧ x.nodes ≤ 10000 by unfold Inst.nodes; omega)
    have q0 : IntKind.i64.wrap (x.nodes - 1) = x.nodes - 1 := IntWalk.i64_in _ (by have := HN.out; omega)
    obtain ⟨b1, b2⟩ := lay (Below.refl _ _) HA1.out
    go_wp2_with fail
    clear b1 b2
    go_at_call 89
    refine Calls.mono (show Calls Try.prog _ _ _ (fun e w' => e = .returned (.int .i64 x.nodes) ∧ _) from impl_nodes _ A0 A1 A2 x.vs.length x.qs.length x.rs.length c0 c1 c2 (by omega) (by omega)) ?_
    rintro e w2 ⟨rfl, hb⟩
    have HB2 := Aside0.mk (bel_call HB1.out hb); have HA2 := Aside0.mk (blk_below HA1.out hb); clear hb
    go_wp2_with fail
    go_at_call 59
    refine (impl_within _ _ _ _).mono ?_
    rintro e w' ⟨rfl, rfl⟩
    cases ha : inB a 0 (x.nodes - 1) with
    | false =>
      have HL := Aside0.mk (show x.travel a b = -1 by unfold Inst.travel; rw [ha]; simp); clear ha
      go_wp2
      go_ret
      exact ⟨by rw [HL.out]; rfl, HB2.out⟩
    | true =>
      have HIa := Aside0.mk ha; clear ha
      obtain ⟨b1, b2⟩ := lay (Below.refl _ _) HA2.out
      go_wp2_with fail
      clear b1 b2
      go_at_call 89
      refine Calls.mono (show Calls Try.prog _ _ _ (fun e w' => e = .returned (.int .i64 x.nodes) ∧ _) from impl_nodes _ A0 A1 A2 x.vs.length x.qs.length x.rs.length c0 c1 c2 (by omega) (by omega)) ?_
      rintro e w3 ⟨rfl, hb⟩
      have HB3 := Aside0.mk (bel_call HB2.out hb); have HA3 := Aside0.mk (blk_below HA2.out hb); clear hb
      go_wp2_with fail
      go_at_call 59
      refine (impl_within _ _ _ _).mono ?_
      rintro e w' ⟨rfl, rfl⟩
      cases hb : inB b 0 (x.nodes - 1) with
      | false =>
        have HL := Aside0.mk (show x.travel a b = -1 by unfold Inst.travel; rw [hb]; simp); clear hb
        go_wp2
        go_ret
        exact ⟨by rw [HL.out]; rfl, HB3.out⟩
      | true =>
        have HL := Aside0.mk (show x.travel a b = x.leg a b by unfold Inst.travel; rw [HV.out, HIa.out, hb]; rfl)
        have ha0 := (inB_iff _ _ _).1 HIa.out; have hb0 := (inB_iff _ _ _).1 hb; clear hb
        have HAB := Aside0.mk (show 0 ≤ a ∧ a < x.nodes ∧ 0 ≤ b ∧ b < x.nodes by omega); clear ha0 hb0
        obtain ⟨b1, b2⟩ := lay (Below.refl _ _) HA3.out
        go_wp2_with fail
        clear b1 b2
        go_at_call 95
        refine (impl_travel _ _ x (HX.out.below HB3.out) f0 f1 f2 (Inst.near_of HV.out) (Inst.sorted_of HV.out) a b HAB.out.1 HAB.out.2.1 HAB.out.2.2.1 HAB.out.2.2.2).mono ?_
        rintro e w4 ⟨rfl, hb⟩
        have HB4 := Aside0.mk (bel_call HB3.out hb); have HA4 := Aside0.mk (blk_below HA3.out hb); clear hb
        go_wp2
        go_ret
        exact ⟨by rw [HL.out]; rfl, HB4.out⟩
set_option maxRecDepth 100000 in
set_option maxHeartbeats 1000000 in
theorem law_travel (v : Value) (x : Inst) (hr : ReadInst w v x) (a b : Int) : Calls Try.prog 11 #[v, .int .i64 a, .int .i64 b] w fun e w' => e = .returned (.bool true) ∧ Below w.heap.size w w' := by
  have hr' := hr
  obtain ⟨A0, c0, A1, c1, A2, c2, rfl, r0, r1, r2⟩ := hr'
  clear r0 r1 r2
  have HR := Aside0.mk hr; clear hr
  have HA := Aside0.mk (al_new w (.cells #[.slice A0 x.vs.length c0, .slice A1 x.qs.length c1, .slice A2 x.rs.length c2] 48))
  have HB := Aside0.mk (below_alloc (Below.refl w.heap.size w) (.cells #[.slice A0 x.vs.length c0, .slice A1 x.qs.length c1, .slice A2 x.rs.length c2] 48))
  go_enter Try.func11, Try.ntmps11
  go_wp2_with fail
  go_at_call 37
  refine (szInst _ _ x 1048576 (by omega) (by omega) (HR.out.below HB.out)).mono ?_
  rintro e w2 ⟨⟨r, rfl, hr⟩, hb⟩
  have HB1 := Aside0.mk (bel_call HB.out hb); have HA1 := Aside0.mk (blk_below HA.out hb); clear hb HA HB
  rcases hr with rfl | ⟨hr0, hr1, hs⟩
  · go_wp2
    go_ret
    exact ⟨rfl, HB1.out⟩
  have HS := Aside0.mk hs; clear hs
  have hd : decide (r < 0) = false := by simp; omega
  obtain ⟨b1, b2⟩ := lay (Below.refl _ _) HA1.out
  go_wp2_with fail
  clear b1 b2
  go_at_call 39
  refine (toInst _ _ x (HR.out.below HB1.out) HS.out).mono ?_
  rintro e w3 ⟨u, rfl, ho, hb⟩
  have HB2 := Aside0.mk (bel_call HB1.out hb); have HA2 := Aside0.mk (blk_below HA1.out hb); clear hb HA1 HB1
  have HX := Aside0.mk ho.read; clear ho
  go_wp2_with fail
  go_at_call 42
  refine (spec_Travel _ _ x HX.out a b).mono ?_
  rintro e w4 ⟨rfl, hb⟩
  have HB3 := Aside0.mk (bel_call HB2.out hb); have HA3 := Aside0.mk (blk_below HA2.out hb); clear hb HA2 HB2 HX
  obtain ⟨b1, b2⟩ := lay (Below.refl _ _) HA3.out
  go_wp2_with fail
  clear b1 b2
  go_at_call 39
  refine (toInst _ _ x (HR.out.below HB3.out) HS.out).mono ?_
  rintro e w5 ⟨u5, rfl, ho, hb⟩
  have HB4 := Aside0.mk (bel_call HB3.out hb); have HA4 := Aside0.mk (blk_below HA3.out hb); clear hb HA3 HB3
  obtain ⟨B0, d0, B1, d1, B2, d2, rfl, t0, t1, t2⟩ := ho.read
  clear ho
  have HX := Aside0.mk (show ReadInst w5 (.agg #[.slice B0 x.vs.length d0, .slice B1 x.qs.length d1, .slice B2 x.rs.length d2]) x from ⟨_, _, _, _, _, _, rfl, t0, t1, t2⟩); clear t0 t1 t2
  go_wp2_with fail
  have HB5 := Aside0.mk (bel_box HB4.out (.cells #[.slice B0 x.vs.length d0, .slice B1 x.qs.length d1, .slice B2 x.rs.length d2] 55))
  have HA5 := Aside0.mk (blk_box HA4.out (.cells #[.slice B0 x.vs.length d0, .slice B1 x.qs.length d1, .slice B2 x.rs.length d2] 55))
  have HV5 := Aside0.mk (al_new w5 (.cells #[.slice B0 x.vs.length d0, .slice B1 x.qs.length d1, .slice B2 x.rs.length d2] 55))
  have HX5 := Aside0.mk (HX.out.below (below_alloc (Below.refl w5.heap.size w5) (.cells #[.slice B0 x.vs.length d0, .slice B1 x.qs.length d1, .slice B2 x.rs.length d2] 55)))
  clear HA4 HB4 HX
  go_at_call 43
  refine (impl_Travel _ _ x HX5.out a b).mono ?_
  rintro e w6 ⟨rfl, hb⟩
  have HB6 := Aside0.mk (bel_call HB5.out hb); have HA6 := Aside0.mk (blk_below HA5.out hb); have HV6 := Aside0.mk (blk_below HV5.out hb); have HX6 := Aside0.mk (HX5.out.below hb); clear hb HA5 HB5 HX5 HV5
  go_wp2_with fail
  go_region_held3 (fun w' => w'.cell? ⟨w.heap.size, 0, none⟩ = some (.slice A0 x.vs.length c0) ∧ w'.cell? ⟨w.heap.size, 1, none⟩ = some (.slice A1 x.qs.length c1) ∧ w'.cell? ⟨w.heap.size, 2, none⟩ = some (.slice A2 x.rs.length c2) ∧ w'.cell? ⟨w5.heap.size, 0, none⟩ = some (.slice B0 x.vs.length d0) ∧ w'.cell? ⟨w5.heap.size, 1, none⟩ = some (.slice B1 x.qs.length d1) ∧ w'.cell? ⟨w5.heap.size, 2, none⟩ = some (.slice B2 x.rs.length d2) ∧ Below w6.heap.size w6 w')
    (first | exact ⟨blk_cell HA6.out 0, blk_cell HA6.out 1, blk_cell HA6.out 2, blk_cell HV6.out 0, blk_cell HV6.out 1, blk_cell HV6.out 2, below_drew (Below.refl _ _)⟩ | exact keepC6 (by assumption) hb2 | exact keepC6 (by assumption) hb3)
    (first
      | (go_at_call 39; refine Calls.mono (toInst _ _ x ?_ HS.out) ?_; exact HR.out.below (bel_call HB6.out (bel6 (by assumption))); rintro e w7 ⟨u7, rfl, ho, hb2⟩; replace ho := ho.read)
      | (go_at_call 41; refine (eqInst _ _ _ x (HX6.out.below (bel6 (by assumption))) ho HS.out).mono ?_; rintro e w8 ⟨rfl, hb3⟩))
  rename_i hH
  have HB7 := Aside0.mk (bel_call HB6.out hH.2.2.2.2.2.2); clear hH
  go_wp2
  go_ret
  exact ⟨rfl, HB7.out⟩
end
end Go.Proofs.Ytmjpajaeffhdeaa.L1
