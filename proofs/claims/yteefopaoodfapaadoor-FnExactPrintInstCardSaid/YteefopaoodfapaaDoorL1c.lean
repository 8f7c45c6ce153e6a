/- What the laws' helpers answer over a whole instance: its copy, its comparison with itself, its size. -/
import Derived.Test.YteefopaoodfapaaDoorL1b
namespace Go.Proofs.YteefopaoodfapaaDoor.L1
open Go.RowKit Go.Proofs.YteefopaoodfapaaDoorW.PrintWords Go.Proofs.YteefopaoodfapaaDoor.B
set_option linter.unusedVariables false
set_option linter.unusedSimpArgs false

structure Inst where (vs : List Veh) (qs : List Req) (rs : List Road)
/-- An instance that is read. -/
def ReadInst (w : World) (v : Value) (x : Inst) : Prop := ∃ A0 c0 A1 c1 A2 c2, v = .agg #[.slice A0 x.vs.length c0, .slice A1 x.qs.length c1, .slice A2 x.rs.length c2] ∧
  kVeh.C w A0 x.vs.length x.vs ∧ kReq.C w A1 x.qs.length x.qs ∧ kRoad.C w A2 x.rs.length x.rs
/-- An instance of the call's own: three rows, each elsewhere. -/
def OwnInst (w : World) (base : Nat) (v : Value) (x : Inst) : Prop := ∃ v0 v1 v2 s1 s2, v = .agg #[v0, v1, v2] ∧ kVeh.R 53 w base (fun b => b < s1) v0 x.vs ∧ kReq.R 59 w base (fun b => s1 ≤ b ∧ b < s2) v1 x.qs ∧ kRoad.R 61 w base (fun b => s2 ≤ b) v2 x.rs
theorem ReadInst.below {w w1 : World} {v : Value} {x : Inst} (h : ReadInst w v x) (hb : Below w.heap.size w w1) : ReadInst w1 v x := by
  obtain ⟨A0, c0, A1, c1, A2, c2, rfl, h0, h1, h2⟩ := h
  exact ⟨A0, c0, A1, c1, A2, c2, rfl, Kd.C_below h0 hb, Kd.C_below h1 hb, Kd.C_below h2 hb⟩
theorem OwnInst.read {w : World} {base : Nat} {v : Value} {x : Inst} (h : OwnInst w base v x) : ReadInst w v x := by
  obtain ⟨v0, v1, v2, s1, s2, rfl, h0, h1, h2⟩ := h
  obtain ⟨A0, c0, rfl, _, r0⟩ := Kd.R_reads h0
  obtain ⟨A1, c1, rfl, _, r1⟩ := Kd.R_reads h1
  obtain ⟨A2, c2, rfl, _, r2⟩ := Kd.R_reads h2
  exact ⟨A0, c0, A1, c1, A2, c2, rfl, r0, r1, r2⟩
theorem OwnInst.below {w w1 : World} {base : Nat} {v : Value} {x : Inst} (h : OwnInst w base v x) (hb : Below w.heap.size w w1) : OwnInst w1 base v x := by
  obtain ⟨v0, v1, v2, s1, s2, rfl, h0, h1, h2⟩ := h
  exact ⟨v0, v1, v2, s1, s2, rfl, Kd.R_below h0 hb, Kd.R_below h1 hb, Kd.R_below h2 hb⟩
theorem OwnInst.lower {w : World} {base base' : Nat} {v : Value} {x : Inst} (h : OwnInst w base v x) (hb : base' ≤ base) : OwnInst w base' v x := by
  obtain ⟨v0, v1, v2, s1, s2, rfl, h0, h1, h2⟩ := h
  exact ⟨v0, v1, v2, s1, s2, rfl, Kd.R_lower h0 hb, Kd.R_lower h1 hb, Kd.R_lower h2 hb⟩
/-- Few enough for every count. -/
def Inst.small (x : Inst) : Prop := x.vs.length ≤ 1048576 ∧ x.qs.length ≤ 1048576 ∧ x.rs.length ≤ 1048576
section
variable (w : World)
set_option maxRecDepth 100000 in
set_option maxHeartbeats 1000000 in
theorem toInst (v : Value) (x : Inst) (hr : ReadInst w v x) (hs : x.small) : Calls Tryd.prog 6 #[v] w fun e w' => ∃ u, e = .returned u ∧ OwnInst w' w.heap.size u x ∧ Below w.heap.size w w' := by
  obtain ⟨A0, c0, A1, c1, A2, c2, rfl, r0, r1, r2⟩ := hr
  obtain ⟨n0, n1, n2⟩ := hs
  have R0 := Aside0.mk r0; have R1 := Aside0.mk r1; have R2 := Aside0.mk r2; clear r0 r1 r2
  go_enter Tryd.func6, Tryd.ntmps6
  go_wp2_with fail
  have HB := Aside0.mk (below_alloc (below_alloc (below_alloc (Below.refl w.heap.size w) (.cells #[.slice A0 x.vs.length c0, .slice A1 x.qs.length c1, .slice A2 x.rs.length c2] 26)) (.cells #[.slice none 0 0, .slice none 0 0, .slice none 0 0] 34)) (.cells #[.slice none 0 0, .slice none 0 0, .slice none 0 0] 34))
  refine (toVehS _ A0 c0 x.vs (Kd.C_below R0.out HB.out) n0).mono ?_
  rintro e w0 ⟨v0, rfl, hr0, hb0⟩
  have A := blk_below ((al_old (by simp only [al_size]; omega)).trans ((al_old (by simp only [al_size]; omega)).trans (al_new w _))) hb0
  have B := blk_below ((al_old (by simp only [al_size]; omega)).trans (al_new _ _)) hb0
  have D := blk_below (al_new _ _) hb0
  have hz0 := hb0.size
  have hr0' := Kd.fresh (base := w.heap.size) hr0 (by simp only [al_size]; omega)
  simp only [al_size] at B D hz0 hr0'
  obtain ⟨a1, a2⟩ := lay (Below.refl _ _) A
  obtain ⟨d1, d2⟩ := lay (Below.refl _ _) D
  have HB0 := Aside0.mk (bel_set (b := w.heap.size + 1 + 1) (o := 0) (bel_call HB.out hb0) (by omega))
  obtain ⟨B0, d0, rfl, _, _⟩ := Kd.R_reads hr0'
  have HR0 := Aside0.mk (Kd.R_far (p := ⟨w.heap.size + 1 + 1, 0, none⟩) hr0' (fun k hk => by have := hk.1; simp only; omega) (.slice B0 x.vs.length d0))
  have HA := Aside0.mk (blk_far (p := ⟨w.heap.size + 1 + 1, 0, none⟩) A (by simp only; omega) (.slice B0 x.vs.length d0)); have HC := Aside0.mk (blk_far (p := ⟨w.heap.size + 1 + 1, 0, none⟩) B (by simp only; omega) (.slice B0 x.vs.length d0)); have HD := Aside0.mk (blk_set D 0 (.slice B0 x.vs.length d0)); clear hb0 hr0 hr0' A B D HB
  go_wp2_with fail
  clear a1 a2 d1 d2
  refine (toReqS _ A1 c1 x.qs (Kd.C_below R1.out (HB0.out _)) n1).mono ?_
  rintro e w1 ⟨v1, rfl, hr1, hb1⟩
  have A := blk_below HA.out hb1; have B := blk_below HC.out hb1; have D := blk_below HD.out hb1
  have hz1 := hb1.size
  have hr1' := Kd.fresh (base := w.heap.size) hr1 (by simp; omega)
  have hr0' := Kd.R_below HR0.out hb1
  simp only [World.size_setCell, List.setIfInBounds_toArray, List.set_cons_zero, List.set_cons_succ] at D hz1 hr1'
  obtain ⟨a1, a2⟩ := lay (Below.refl _ _) A
  obtain ⟨d1, d2⟩ := lay (Below.refl _ _) D
  have HB1 := Aside0.mk (bel_set (b := w.heap.size + 1 + 1) (o := 1) (bel_call (HB0.out _) hb1) (by omega))
  obtain ⟨B1, d1', rfl, _, _⟩ := Kd.R_reads hr1'
  have HS0 := Aside0.mk (Kd.R_far (p := ⟨w.heap.size + 1 + 1, 1, none⟩) hr0' (fun k hk => by have := hk.1; simp only; omega) (.slice B1 x.qs.length d1'))
  have HS1 := Aside0.mk (Kd.R_far (p := ⟨w.heap.size + 1 + 1, 1, none⟩) hr1' (fun k hk => by have := hk.1; simp only; omega) (.slice B1 x.qs.length d1'))
  have HA1 := Aside0.mk (blk_far (p := ⟨w.heap.size + 1 + 1, 1, none⟩) A (by simp only; omega) (.slice B1 x.qs.length d1')); have HC1 := Aside0.mk (blk_far (p := ⟨w.heap.size + 1 + 1, 1, none⟩) B (by simp only; omega) (.slice B1 x.qs.length d1')); have HD1 := Aside0.mk (blk_set D 1 (.slice B1 x.qs.length d1')); clear hb1 hr1 hr1' hr0' A B D HB0 HA HC HD HR0
  go_wp2_with fail
  clear a1 a2 d1 d2
  refine (toRoadS _ A2 c2 x.rs (Kd.C_below R2.out (HB1.out _)) n2).mono ?_
  rintro e w2 ⟨v2, rfl, hr2, hb2⟩
  have B := blk_below HC1.out hb2; have D := blk_below HD1.out hb2
  have hz2 := hb2.size
  have hr2' := Kd.fresh (base := w.heap.size) hr2 (by simp; omega)
  simp only [World.size_setCell, List.setIfInBounds_toArray, List.set_cons_zero, List.set_cons_succ] at D hz2 hr2'
  obtain ⟨b1, b2⟩ := lay (Below.refl _ _) B
  obtain ⟨d1, d2⟩ := lay (Below.refl _ _) D
  obtain ⟨B2, d2', rfl, _, _⟩ := Kd.R_reads hr2'
  have HB2 := Aside0.mk (bel_call (HB1.out _) hb2)
  have HT0 := Aside0.mk (Kd.R_below HS0.out hb2); have HT1 := Aside0.mk (Kd.R_below HS1.out hb2); have HT2 := Aside0.mk hr2'
  clear hb2 hr2 hr2' B D HA1 HC1 HD1 HB1 HS0 HS1
  go_wp2
  refine bodyPost_ret (v := .agg #[.slice B0 x.vs.length d0, .slice B1 x.qs.length d1', .slice B2 x.rs.length d2']) (by simp [results, Tryd.results6, go_sem, b1, b2, d1, d2]) rfl ⟨_, rfl, ⟨_, _, _, w0.heap.size, w1.heap.size, rfl, ?_, ?_, ?_⟩, ?_⟩
  · refine Kd.R_mono (ok := fun k => w.heap.size + 1 + 1 + 1 ≤ k ∧ k < w0.heap.size) ?_ (fun k hk => hk.2)
    repeat (first | exact HT0.out | refine Kd.R_far ?_ (fun k hk => by have := hk.1; simp only; omega) _)
  · refine Kd.R_mono (ok := fun k => w0.heap.size ≤ k ∧ k < w1.heap.size) ?_ (fun k hk => hk)
    repeat (first | exact HT1.out | refine Kd.R_far ?_ (fun k hk => by have := hk.1; simp only; omega) _)
  · refine Kd.R_mono (ok := fun k => w1.heap.size ≤ k ∧ k < w2.heap.size) ?_ (fun k hk => hk.1)
    repeat (first | exact HT2.out | refine Kd.R_far ?_ (fun k hk => by have := hk.1; simp only; omega) _)
  · with_reducible repeat (first | exact HB2.out | refine bel_set ?_ (by omega) _)
end
end Go.Proofs.YteefopaoodfapaaDoor.L1
