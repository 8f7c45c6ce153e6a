/- What the small functions over roads and nodes answer. -/
import Derived.Test.YteefopaoodfapaaDoorL1d
namespace Go.Proofs.YteefopaoodfapaaDoor.L1
open Go.RowKit Go.Proofs.YteefopaoodfapaaDoorW.PrintWords Go.Proofs.YteefopaoodfapaaDoor.B
set_option linter.unusedVariables false
set_option linter.unusedSimpArgs false
attribute [local go_sem] mk_cell mk_frozen
def cmp (x y : Int) : Int := if x < y then -1 else if y < x then 1 else 0
def Road.cmp (r s : Road) : Int := if L1.cmp r.a s.a = 0 then L1.cmp r.b s.b else L1.cmp r.a s.a
theorem Road.cmp_neg (r s : Road) : r.cmp s < 0 ↔ r.lt s = true := by
  unfold Road.cmp L1.cmp Road.lt
  rw [decide_eq_true_iff]
  (repeat' split) <;> omega
theorem Road.cmp_zero (r s : Road) : r.cmp s = 0 ↔ r.a = s.a ∧ r.b = s.b := by
  unfold Road.cmp L1.cmp
  (repeat' split) <;> omega
section
variable (w : World)
theorem isNaN (x : Int) : Calls Tryd.prog 67 #[.int .i64 x] w fun e w' => e = .returned (.bool false) ∧ w = w' := by
  go_enter Tryd.func67, Tryd.ntmps67
  go_wp2
  go_ret
  exact ⟨by simp, rfl⟩
theorem compare (x y : Int) : Calls Tryd.prog 64 #[.int .i64 x, .int .i64 y] w fun e w' => e = .returned (.int .i64 (cmp x y)) ∧ w = w' := by
  go_enter Tryd.func64, Tryd.ntmps64
  go_wp2_with (go_at_call 67; refine (isNaN _ _).mono ?_; rintro e w' ⟨rfl, rfl⟩)
  all_goals (go_ret; exact ⟨by simp [cmp, *] <;> omega, rfl⟩)
/-- cmp.Or over a pair. -/
theorem or2 (x y : Int) (g : Nat) (h0 : w.cell? ⟨g, 0, none⟩ = some (.int .i64 x)) (h1 : w.cell? ⟨g, 1, none⟩ = some (.int .i64 y)) :
    Calls Tryd.prog 63 #[.slice (some ⟨g, 0, none⟩) 2 2] w fun e w' => e = .returned (.int .i64 (if x = 0 then y else x)) ∧ w = w' := by
  by_cases hx : x = 0
  · subst hx
    by_cases hy : y = 0
    · subst hy
      go_enter Tryd.func63, Tryd.ntmps63
      go_wp2
      refine wp_loop_rounds 3 ?_
      rw [rounds_succ]; go_wp2
      rw [rounds_succ]; go_wp2
      rw [rounds_succ]; go_wp2
      go_ret
      exact ⟨rfl, rfl⟩
    · have hb : (y != 0) = true := by simp [hy]
      go_enter Tryd.func63, Tryd.ntmps63
      go_wp2
      refine wp_loop_rounds 2 ?_
      rw [rounds_succ]; go_wp2
      rw [rounds_succ]; go_wp2
      go_ret
      exact ⟨rfl, rfl⟩
  · have hb : (x != 0) = true := by simp [hx]
    go_enter Tryd.func63, Tryd.ntmps63
    go_wp2
    refine wp_loop_rounds 1 ?_
    rw [rounds_succ]; go_wp2
    go_ret
    exact ⟨by first | rfl | (simp [hx]; done), rfl⟩
set_option maxRecDepth 100000 in
theorem impl_compare (r s : Road) : Calls Tryd.prog 49 #[.agg #[.int .i64 r.a, .int .i64 r.b, .int .i64 r.t], .agg #[.int .i64 s.a, .int .i64 s.b, .int .i64 s.t]] w fun e w' => e = .returned (.int .i64 (r.cmp s)) ∧ Below w.heap.size w w' := by
  go_enter Tryd.func49, Tryd.ntmps49
  go_wp2_with fail
  go_still_tail 10, (by kernel_rfl)
  still_call ((compare _ r.a s.a).mono fun e w' h => ⟨h.1, h.2.symm⟩)
  repeat still_step
  still_call ((compare _ r.b s.b).mono fun e w' h => ⟨h.1, h.2.symm⟩)
  refine wpStill_nil ?_
  go_wp2_with fail
  refine (or2 _ (L1.cmp r.a s.a) (L1.cmp r.b s.b) _ (by go_simp) (by go_simp)).mono ?_
  rintro e w1 ⟨rfl, rfl⟩
  go_wp2
  all_goals go_ret
  all_goals exact ⟨by simp [Road.cmp, *], below_alloc (below_drew (below_alloc (below_alloc (Below.refl _ _) _) _)) _⟩
theorem spec_goodRoad (r : Road) (n : Int) (h0 : 0 ≤ n) (h1 : n ≤ 100000000) : Calls Tryd.prog 35 #[.agg #[.int .i64 r.a, .int .i64 r.b, .int .i64 r.t], .int .i64 n] w fun e w' => e = .returned (.bool (r.good n)) ∧ Below w.heap.size w w' := by
  go_enter Tryd.func35, Tryd.ntmps35
  go_wp2_with (go_at_call 55; refine (spec_l1In _ _ _ _).mono ?_; rintro e w' ⟨rfl, rfl⟩)
  all_goals (go_ret; exact ⟨by simp_all [Road.good], below_alloc (Below.refl _ _) _⟩)
theorem impl_goodRoad (r : Road) (n : Int) (h0 : 0 ≤ n) (h1 : n ≤ 100000000) : Calls Tryd.prog 47 #[.agg #[.int .i64 r.a, .int .i64 r.b, .int .i64 r.t], .int .i64 n] w fun e w' => e = .returned (.bool (r.good n)) ∧ Below w.heap.size w w' := by
  go_enter Tryd.func47, Tryd.ntmps47
  go_wp2_with (go_at_call 59; refine (impl_within _ _ _ _).mono ?_; rintro e w' ⟨rfl, rfl⟩)
  all_goals (go_ret; exact ⟨by simp_all [Road.good], below_alloc (Below.refl _ _) _⟩)
theorem spec_before (r s : Road) : Calls Tryd.prog 37 #[.agg #[.int .i64 r.a, .int .i64 r.b, .int .i64 r.t], .agg #[.int .i64 s.a, .int .i64 s.b, .int .i64 s.t]] w fun e w' => e = .returned (.bool (r.lt s)) ∧ Below w.heap.size w w' := by
  go_enter Tryd.func37, Tryd.ntmps37
  go_wp2
  all_goals (go_ret; exact ⟨by simp_all [Road.lt] <;> omega, below_alloc (below_alloc (Below.refl _ _) _) _⟩)
theorem impl_goodVeh (v : Veh) : Calls Tryd.prog 45 #[.agg #[.int .i64 v.room, .int .i64 v.skills, .int .i64 v.home.x, .int .i64 v.home.y, .int .i64 v.home.o, .int .i64 v.home.c, .int .i64 v.home.h]] w fun e w' => e = .returned (.bool v.good) ∧ Below w.heap.size w w' := by
  go_enter Tryd.func45, Tryd.ntmps45
  go_wp2_with (first | (go_at_call 59; refine (impl_within _ _ _ _).mono ?_; rintro e w' ⟨rfl, rfl⟩) | (go_at_call 60; refine (impl_goodPlace _ v.home).mono ?_; rintro e w' ⟨rfl, hb⟩))
  all_goals go_ret
  · exact ⟨by simp [Veh.good, *], bel_call (below_alloc (Below.refl _ _) _) ‹Below _ _ _›⟩
  all_goals exact ⟨by simp [Veh.good, *], below_alloc (Below.refl _ _) _⟩
theorem spec_goodReq (v : Req) : Calls Tryd.prog 34 #[.agg #[.int .i64 v.size, .int .i64 v.tags, .int .i64 v.from_.x, .int .i64 v.from_.y, .int .i64 v.from_.o, .int .i64 v.from_.c, .int .i64 v.from_.h, .int .i64 v.to_.x, .int .i64 v.to_.y, .int .i64 v.to_.o, .int .i64 v.to_.c, .int .i64 v.to_.h]] w fun e w' => e = .returned (.bool v.good) ∧ Below w.heap.size w w' := by
  go_enter Tryd.func34, Tryd.ntmps34
  go_wp2_with (first | (go_at_call 55; refine (spec_l1In _ _ _ _).mono ?_; rintro e w' ⟨rfl, rfl⟩) | (go_at_call 56; ((with_reducible refine (spec_goodPlace _ v.from_).mono ?_); rintro e w1 ⟨rfl, hb1⟩; obtain ⟨hc1, hf1⟩ := bcell hb1)) | (go_at_call 56; ((with_reducible refine (spec_goodPlace _ v.to_).mono ?_); rintro e w2 ⟨rfl, hb2⟩)))
  all_goals go_ret
  all_goals exact ⟨by simp_all [Req.good], by with_reducible repeat (first | refine bel_call ?_ hb2 | refine bel_call ?_ hb1 | exact below_alloc (Below.refl _ _) _)⟩
theorem impl_goodReq (v : Req) : Calls Tryd.prog 46 #[.agg #[.int .i64 v.size, .int .i64 v.tags, .int .i64 v.from_.x, .int .i64 v.from_.y, .int .i64 v.from_.o, .int .i64 v.from_.c, .int .i64 v.from_.h, .int .i64 v.to_.x, .int .i64 v.to_.y, .int .i64 v.to_.o, .int .i64 v.to_.c, .int .i64 v.to_.h]] w fun e w' => e = .returned (.bool v.good) ∧ Below w.heap.size w w' := by
  go_enter Tryd.func46, Tryd.ntmps46
  go_wp2_with (first | (go_at_call 59; refine (impl_within _ _ _ _).mono ?_; rintro e w' ⟨rfl, rfl⟩) | (go_at_call 60; ((with_reducible refine (impl_goodPlace _ v.from_).mono ?_); rintro e w1 ⟨rfl, hb1⟩; obtain ⟨hc1, hf1⟩ := bcell hb1)) | (go_at_call 60; ((with_reducible refine (impl_goodPlace _ v.to_).mono ?_); rintro e w2 ⟨rfl, hb2⟩)))
  all_goals go_ret
  all_goals exact ⟨by simp_all [Req.good], by with_reducible repeat (first | refine bel_call ?_ hb2 | refine bel_call ?_ hb1 | exact below_alloc (Below.refl _ _) _)⟩
theorem spec_nodes (A0 A1 A2 : Option Addr) (n0 n1 n2 c0 c1 c2 : Nat) (h0 : n0 ≤ 1048576) (h1 : n1 ≤ 1048576) : Calls Tryd.prog 36 #[.agg #[.slice A0 n0 c0, .slice A1 n1 c1, .slice A2 n2 c2]] w fun e w' => e = .returned (.int .i64 ((n0 : Int) + 2 * (n1 : Int))) ∧ Below w.heap.size w w' := by
  go_enter Tryd.func36, Tryd.ntmps36
  go_wp2
  go_ret
  exact ⟨rfl, below_alloc (Below.refl _ _) _⟩
theorem impl_vehicles (A0 A1 A2 : Option Addr) (n0 n1 n2 c0 c1 c2 : Nat) (h0 : n0 ≤ 1048576) : Calls Tryd.prog 61 #[.agg #[.slice A0 n0 c0, .slice A1 n1 c1, .slice A2 n2 c2]] w fun e w' => e = .returned (.int .i64 (n0 : Int)) ∧ Below w.heap.size w w' := by
  go_enter Tryd.func61, Tryd.ntmps61
  go_wp2
  go_ret
  exact ⟨rfl, below_alloc (Below.refl _ _) _⟩
theorem impl_requests (A0 A1 A2 : Option Addr) (n0 n1 n2 c0 c1 c2 : Nat) (h1 : n1 ≤ 1048576) : Calls Tryd.prog 62 #[.agg #[.slice A0 n0 c0, .slice A1 n1 c1, .slice A2 n2 c2]] w fun e w' => e = .returned (.int .i64 (n1 : Int)) ∧ Below w.heap.size w w' := by
  go_enter Tryd.func62, Tryd.ntmps62
  go_wp2
  go_ret
  exact ⟨rfl, below_alloc (Below.refl _ _) _⟩
/-- What a region reads stays, and memory only grows. -/
theorem keep3 {w W w1 : World} {g : Nat} {a b c : Value} (h : W.cell? ⟨g, 0, none⟩ = some a ∧ W.cell? ⟨g, 1, none⟩ = some b ∧ W.cell? ⟨g, 2, none⟩ = some c ∧ Below w.heap.size w W) (hb : Below W.heap.size W w1) :
    w1.cell? ⟨g, 0, none⟩ = some a ∧ w1.cell? ⟨g, 1, none⟩ = some b ∧ w1.cell? ⟨g, 2, none⟩ = some c ∧ Below w.heap.size w w1 :=
  ⟨pw_cell_below hb h.1, pw_cell_below hb h.2.1, pw_cell_below hb h.2.2.1, bel_call h.2.2.2 hb⟩
theorem impl_nodes (A0 A1 A2 : Option Addr) (n0 n1 n2 c0 c1 c2 : Nat) (h0 : n0 ≤ 1048576) (h1 : n1 ≤ 1048576) : Calls Tryd.prog 48 #[.agg #[.slice A0 n0 c0, .slice A1 n1 c1, .slice A2 n2 c2]] w fun e w' => e = .returned (.int .i64 ((n0 : Int) + 2 * (n1 : Int))) ∧ Below w.heap.size w w' := by
  go_enter Tryd.func48, Tryd.ntmps48
  go_wp2_with fail
  go_region_held3 (fun w' => w'.cell? ⟨w.heap.size, 0, none⟩ = some (.slice A0 n0 c0) ∧ w'.cell? ⟨w.heap.size, 1, none⟩ = some (.slice A1 n1 c1) ∧ w'.cell? ⟨w.heap.size, 2, none⟩ = some (.slice A2 n2 c2) ∧ Below w.heap.size w w')
    (first | exact ⟨blk_cell (al_new w _) 0, blk_cell (al_new w _) 1, blk_cell (al_new w _) 2, below_drew (below_alloc (Below.refl _ _) _)⟩ | exact keep3 (by assumption) hb1)
    (first | (go_at_call 61; refine (impl_vehicles _ A0 A1 A2 n0 n1 n2 c0 c1 c2 h0).mono ?_; rintro e w1 ⟨rfl, hb1⟩) | (go_at_call 62; refine (impl_requests _ A0 A1 A2 n0 n1 n2 c0 c1 c2 h1).mono ?_; rintro e w1 ⟨rfl, hb1⟩))
  have hB := (by assumption : w1.cell? ⟨w.heap.size, 0, none⟩ = some (.slice A0 n0 c0) ∧ w1.cell? ⟨w.heap.size, 1, none⟩ = some (.slice A1 n1 c1) ∧ w1.cell? ⟨w.heap.size, 2, none⟩ = some (.slice A2 n2 c2) ∧ Below w.heap.size w w1).2.2.2
  have e1 : IntKind.i64.wrap (2 * (n1 : Int)) = 2 * (n1 : Int) := IntWalk.i64_in _ (by omega)
  have e2 : IntKind.i64.wrap ((n0 : Int) + 2 * (n1 : Int)) = (n0 : Int) + 2 * (n1 : Int) := IntWalk.i64_in _ (by omega)
  rw [e1, e2]
  clear e1 e2
  go_wp2
  go_ret
  exact ⟨rfl, hB⟩
end
end Go.Proofs.YteefopaoodfapaaDoor.L1
