/- What ValidInst of the reference and of the program answer: one and the same condition on the instance. -/
import Derived.Test.YteefopaoodfapaaDoorL1c
namespace Go.Proofs.YteefopaoodfapaaDoor.L1
open Go.RowKit Go.Proofs.YteefopaoodfapaaDoorW.PrintWords Go.Proofs.YteefopaoodfapaaDoor.B
set_option linter.unusedVariables false
set_option linter.unusedSimpArgs false

def roadAt (n : Int) (rs : List Road) (k : Nat) : Bool := (rs.getD k zR).good n && (decide (k = 0) || (rs.getD (k - 1) zR).lt (rs.getD k zR))
def Inst.nodes (x : Inst) : Int := x.vs.length + 2 * x.qs.length
def Inst.few (x : Inst) : Bool := decide (x.vs.length ≤ 64) && decide (x.qs.length ≤ 1000) && decide (x.rs.length ≤ 4000)
def Inst.valid (x : Inst) : Bool := x.few && allI x.vs.length (fun k => (x.vs.getD k zV).good) && allI x.qs.length (fun k => (x.qs.getD k zQ).good) && allI x.rs.length (roadAt x.nodes x.rs)

section
variable (w : World)
set_option maxHeartbeats 1000000 in
theorem eqInst (v v' : Value) (x : Inst) (hr : ReadInst w v x) (hr' : ReadInst w v' x) (hs : x.small) : Calls Tryd.prog 9 #[v, v'] w fun e w' => e = .returned (.bool true) ∧ Below w.heap.size w w' := by
  obtain ⟨A0, c0, A1, c1, A2, c2, rfl, r0, r1, r2⟩ := hr
  obtain ⟨B0, d0, B1, d1, B2, d2, rfl, s0, s1, s2⟩ := hr'
  obtain ⟨n0, n1, n2⟩ := hs
  have HR := Aside0.mk (And.intro r0 (And.intro r1 (And.intro r2 (And.intro s0 (And.intro s1 s2))))); clear r0 r1 r2 s0 s1 s2
  go_enter Tryd.func9, Tryd.ntmps9
  go_wp2_with fail
  have HB := Aside0.mk (below_alloc (below_alloc (Below.refl w.heap.size w) (.cells #[.slice A0 x.vs.length c0, .slice A1 x.qs.length c1, .slice A2 x.rs.length c2] 34)) (.cells #[.slice B0 x.vs.length d0, .slice B1 x.qs.length d1, .slice B2 x.rs.length d2] 34))
  refine (eqVehS _ A0 B0 c0 d0 x.vs (Kd.C_below HR.out.1 HB.out) (Kd.C_below HR.out.2.2.2.1 HB.out) n0).mono ?_
  rintro e w0 ⟨rfl, hb⟩
  have A := blk_below ((al_old (by simp only [al_size]; omega)).trans (al_new w _)) hb
  have B := blk_below (al_new _ _) hb
  simp only [al_size] at B
  obtain ⟨a1, a2⟩ := lay (Below.refl _ _) A; obtain ⟨b1, b2⟩ := lay (Below.refl _ _) B
  have HA := Aside0.mk A; have HB' := Aside0.mk B; have HB0 := Aside0.mk (bel_call HB.out hb); clear hb HB A B
  go_wp2_with fail
  clear a1 a2 b1 b2
  refine (eqReqS _ A1 B1 c1 d1 x.qs (Kd.C_below HR.out.2.1 HB0.out) (Kd.C_below HR.out.2.2.2.2.1 HB0.out) n1).mono ?_
  rintro e w1 ⟨rfl, hb⟩
  obtain ⟨a1, a2⟩ := lay hb HA.out; obtain ⟨b1, b2⟩ := lay hb HB'.out
  have HB1 := Aside0.mk (bel_call HB0.out hb); clear hb HB0
  go_wp2_with fail
  clear a1 a2 b1 b2
  refine (eqRoadS _ A2 B2 c2 d2 x.rs (Kd.C_below HR.out.2.2.1 HB1.out) (Kd.C_below HR.out.2.2.2.2.2 HB1.out) n2).mono ?_
  rintro e w2 ⟨rfl, hb⟩
  have HB2 := Aside0.mk (bel_call HB1.out hb); clear hb HB1
  go_wp2
  go_ret
  exact ⟨rfl, HB2.out⟩

theorem szInst (v : Value) (x : Inst) (left : Int) (h0 : 0 ≤ left) (h1 : left ≤ 1048576) (hr : ReadInst w v x) : Calls Tryd.prog 4 #[v, .int .i64 left] w fun e w' => (∃ r : Int, e = .returned (.int .i64 r) ∧ (r = -1 ∨ (0 ≤ r ∧ r ≤ left ∧ x.small))) ∧ Below w.heap.size w w' := by
  obtain ⟨A0, c0, A1, c1, A2, c2, rfl, r0, r1, r2⟩ := hr
  have m0 := r0.2.1; have m1 := r1.2.1; have m2 := r2.2.1
  clear r0 r1 r2
  generalize hn0 : x.vs.length = n0 at m0; generalize hn1 : x.qs.length = n1 at m1; generalize hn2 : x.rs.length = n2 at m2
  have H0 := Lib.hid hn0; have H1 := Lib.hid hn1; have H2 := Lib.hid hn2; clear hn0 hn1 hn2
  go_enter Tryd.func4, Tryd.ntmps4
  by_cases l0 : left < n0
  · go_wp2_with (first | (go_at_call 13; refine (szVehS _ A0 n0 c0 left h0 h1 m0).mono ?_; rw [if_pos (by omega)]; rintro e w1 ⟨rfl, rfl⟩))
    go_ret
    exact ⟨⟨-1, rfl, .inl rfl⟩, below_alloc (Below.refl _ _) _⟩
  by_cases l1 : left - n0 < n1
  · go_wp2_with (first | (go_at_call 13; refine (szVehS _ A0 n0 c0 left h0 h1 m0).mono ?_; rw [if_neg (by omega)]; rintro e w1 ⟨rfl, rfl⟩) | (go_at_call 14; refine (szReqS _ A1 n1 c1 (left - n0) (by omega) (by omega) m1).mono ?_; rw [if_pos (by omega)]; rintro e w1 ⟨rfl, rfl⟩))
    go_ret
    exact ⟨⟨-1, rfl, .inl rfl⟩, below_alloc (Below.refl _ _) _⟩
  by_cases l2 : left - n0 - n1 < n2
  · go_wp2_with (first | (go_at_call 13; refine (szVehS _ A0 n0 c0 left h0 h1 m0).mono ?_; rw [if_neg (by omega)]; rintro e w1 ⟨rfl, rfl⟩) | (go_at_call 14; refine (szReqS _ A1 n1 c1 (left - n0) (by omega) (by omega) m1).mono ?_; rw [if_neg (by omega)]; rintro e w1 ⟨rfl, rfl⟩) | (go_at_call 15; refine (szRoadS _ A2 n2 c2 (left - n0 - n1) (by omega) (by omega) m2).mono ?_; rw [if_pos (by omega)]; rintro e w1 ⟨rfl, rfl⟩))
    go_ret
    exact ⟨⟨-1, rfl, .inl rfl⟩, below_alloc (Below.refl _ _) _⟩
  · go_wp2_with (first | (go_at_call 13; refine (szVehS _ A0 n0 c0 left h0 h1 m0).mono ?_; rw [if_neg (by omega)]; rintro e w1 ⟨rfl, rfl⟩) | (go_at_call 14; refine (szReqS _ A1 n1 c1 (left - n0) (by omega) (by omega) m1).mono ?_; rw [if_neg (by omega)]; rintro e w1 ⟨rfl, rfl⟩) | (go_at_call 15; refine (szRoadS _ A2 n2 c2 (left - n0 - n1) (by omega) (by omega) m2).mono ?_; rw [if_neg (by omega)]; rintro e w1 ⟨rfl, rfl⟩))
    go_ret
    refine ⟨⟨left - n0 - n1 - n2, rfl, .inr ⟨by omega, by omega, ?_⟩⟩, below_alloc (Below.refl _ _) _⟩
    unfold Inst.small; rw [H0.out, H1.out, H2.out]; omega
end
end Go.Proofs.YteefopaoodfapaaDoor.L1
