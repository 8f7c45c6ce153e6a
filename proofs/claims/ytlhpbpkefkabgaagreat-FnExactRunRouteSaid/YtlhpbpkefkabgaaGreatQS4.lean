/- What the small functions over roads and nodes answer. ValidInst of the reference and of the program answer Inst.valid. A region whose order is open, by one fact J on memory that every operation keeps: each operation gives one value in every world in which J holds (a load of a cell that J names; a call that answers a number, whatever memory it makes). Then the order does not matter. -/
import Derived.Test.YtlhpbpkefkabgaaGreatQS3
import Derived.Test.YtlhpbpkefkabgaaGreatQS2
import Derived.Still
namespace Go.Proofs.YtlhpbpkefkabgaaGreat.L1
open Go.RowKit Go.Proofs.YtlhpbpkefkabgaaGreatW.PrintWords Go.Proofs.YtlhpbpkefkabgaaGreat.B
set_option linter.unusedVariables false
set_option linter.unusedSimpArgs false
attribute [local go_sem] mk_cell mk_frozen
def cmp (x y : Int) : Int := if x < y then -1 else if y < x then 1 else 0
def Road.cmp (r s : Road) : Int := if L1.cmp r.a s.a = 0 then L1.cmp r.b s.b else L1.cmp r.a s.a
theorem Road.cmp_neg (r s : Road) : r.cmp s < 0 ↔ r.lt s = true := by
  unfold Road.cmp L1.cmp Road.lt
  rw [decide_eq_true_iff]
  (repeat' split) <;> omega
theorem Road.cmp_zero (r s : Road) : r.cmp s = 0 ↔ r.a = s.a ∧ r.b = s.b := by
  unfold Road.cmp L1.cmp
  (repeat' split) <;> omega
section
variable (w : World)
theorem isNaN (x : Int) : Calls Tryz.prog 159 #[.int .i64 x] w fun e w' => e = .returned (.bool false) ∧ w = w' := by
  go_enter Tryz.func159, Tryz.ntmps159
  go_wp2
  go_ret
  exact ⟨by simp, rfl⟩
theorem compare (x y : Int) : Calls Tryz.prog 158 #[.int .i64 x, .int .i64 y] w fun e w' => e = .returned (.int .i64 (cmp x y)) ∧ w = w' := by
  go_enter Tryz.func158, Tryz.ntmps158
  go_wp2_with (go_at_call 159; refine (isNaN _ _).mono ?_; rintro e w' ⟨rfl, rfl⟩)
  all_goals (go_ret; exact ⟨by simp [cmp, *] <;> omega, rfl⟩)
/-- cmp.Or over a pair. -/
theorem or2 (x y : Int) (g : Nat) (h0 : w.cell? ⟨g, 0, none⟩ = some (.int .i64 x)) (h1 : w.cell? ⟨g, 1, none⟩ = some (.int .i64 y)) :
    Calls Tryz.prog 157 #[.slice (some ⟨g, 0, none⟩) 2 2] w fun e w' => e = .returned (.int .i64 (if x = 0 then y else x)) ∧ w = w' := by
  by_cases hx : x = 0
  · subst hx
    by_cases hy : y = 0
    · subst hy
      go_enter Tryz.func157, Tryz.ntmps157
      go_wp2
      refine wp_loop_rounds 3 ?_
      rw [rounds_succ]; go_wp2
      rw [rounds_succ]; go_wp2
      rw [rounds_succ]; go_wp2
      go_ret
      exact ⟨rfl, rfl⟩
    · have hb : (y != 0) = true := by simp [hy]
      go_enter Tryz.func157, Tryz.ntmps157
      go_wp2
      refine wp_loop_rounds 2 ?_
      rw [rounds_succ]; go_wp2
      rw [rounds_succ]; go_wp2
      go_ret
      exact ⟨rfl, rfl⟩
  · have hb : (x != 0) = true := by simp [hx]
    go_enter Tryz.func157, Tryz.ntmps157
    go_wp2
    refine wp_loop_rounds 1 ?_
    rw [rounds_succ]; go_wp2
    go_ret
    exact ⟨by first | rfl | (simp [hx]; done), rfl⟩
set_option maxRecDepth 100000 in
theorem impl_compare (r s : Road) : Calls Tryz.prog 118 #[.agg #[.int .i64 r.a, .int .i64 r.b, .int .i64 r.t], .agg #[.int .i64 s.a, .int .i64 s.b, .int .i64 s.t]] w fun e w' => e = .returned (.int .i64 (r.cmp s)) ∧ Below w.heap.size w w' := by
  go_enter Tryz.func118, Tryz.ntmps118
  go_wp2_with fail
  go_still_tail 10, (by kernel_rfl)
  still_call ((compare _ r.a s.a).mono fun e w' h => ⟨h.1, h.2.symm⟩)
  repeat still_step
  still_call ((compare _ r.b s.b).mono fun e w' h => ⟨h.1, h.2.symm⟩)
  refine wpStill_nil ?_
  go_wp2_with fail
  refine (or2 _ (L1.cmp r.a s.a) (L1.cmp r.b s.b) _ (by go_simp) (by go_simp)).mono ?_
  rintro e w1 ⟨rfl, rfl⟩
  go_wp2
  all_goals go_ret
  all_goals exact ⟨by simp [Road.cmp, *], bA (below_drew (bA (bA (Below.refl _ _) _) _)) _⟩
theorem spec_goodRoad (r : Road) (n : Int) (h0 : 0 ≤ n) (h1 : n ≤ 100000000) : Calls Tryz.prog 88 #[.agg #[.int .i64 r.a, .int .i64 r.b, .int .i64 r.t], .int .i64 n] w fun e w' => e = .returned (.bool (r.good n)) ∧ Below w.heap.size w w' := by
  go_enter Tryz.func88, Tryz.ntmps88
  go_wp2_with (go_at_call 47; refine (spec_l1In _ _ _ _).mono ?_; rintro e w' ⟨rfl, rfl⟩)
  all_goals (go_ret; exact ⟨by simp_all [Road.good], bA (Below.refl _ _) _⟩)
theorem impl_goodRoad (r : Road) (n : Int) (h0 : 0 ≤ n) (h1 : n ≤ 100000000) : Calls Tryz.prog 117 #[.agg #[.int .i64 r.a, .int .i64 r.b, .int .i64 r.t], .int .i64 n] w fun e w' => e = .returned (.bool (r.good n)) ∧ Below w.heap.size w w' := by
  go_enter Tryz.func117, Tryz.ntmps117
  go_wp2_with (go_at_call 79; refine (impl_within _ _ _ _).mono ?_; rintro e w' ⟨rfl, rfl⟩)
  all_goals (go_ret; exact ⟨by simp_all [Road.good], bA (Below.refl _ _) _⟩)
theorem spec_before (r s : Road) : Calls Tryz.prog 90 #[.agg #[.int .i64 r.a, .int .i64 r.b, .int .i64 r.t], .agg #[.int .i64 s.a, .int .i64 s.b, .int .i64 s.t]] w fun e w' => e = .returned (.bool (r.lt s)) ∧ Below w.heap.size w w' := by
  go_enter Tryz.func90, Tryz.ntmps90
  go_wp2
  all_goals (go_ret; exact ⟨by simp_all [Road.lt] <;> omega, bA (bA (Below.refl _ _) _) _⟩)
theorem impl_goodVeh (v : Veh) : Calls Tryz.prog 115 #[.agg #[.int .i64 v.room, .int .i64 v.skills, .int .i64 v.home.x, .int .i64 v.home.y, .int .i64 v.home.o, .int .i64 v.home.c, .int .i64 v.home.h]] w fun e w' => e = .returned (.bool v.good) ∧ Below w.heap.size w w' := by
  go_enter Tryz.func115, Tryz.ntmps115
  go_wp2_with (first | (go_at_call 79; refine (impl_within _ _ _ _).mono ?_; rintro e w' ⟨rfl, rfl⟩) | (go_at_call 156; refine (impl_goodPlace _ v.home).mono ?_; rintro e w' ⟨rfl, hb⟩))
  all_goals go_ret
  · exact ⟨by simp [Veh.good, *], bC (bA (Below.refl _ _) _) ‹Below _ _ _›⟩
  all_goals exact ⟨by simp [Veh.good, *], bA (Below.refl _ _) _⟩
theorem spec_goodReq (v : Req) : Calls Tryz.prog 87 #[.agg #[.int .i64 v.size, .int .i64 v.tags, .int .i64 v.from_.x, .int .i64 v.from_.y, .int .i64 v.from_.o, .int .i64 v.from_.c, .int .i64 v.from_.h, .int .i64 v.to_.x, .int .i64 v.to_.y, .int .i64 v.to_.o, .int .i64 v.to_.c, .int .i64 v.to_.h]] w fun e w' => e = .returned (.bool v.good) ∧ Below w.heap.size w w' := by
  go_enter Tryz.func87, Tryz.ntmps87
  go_wp2_with (first | (go_at_call 47; refine (spec_l1In _ _ _ _).mono ?_; rintro e w' ⟨rfl, rfl⟩) | (go_at_call 121; ((with_reducible refine (spec_goodPlace _ v.from_).mono ?_); rintro e w1 ⟨rfl, hb1⟩; obtain ⟨hc1, hf1⟩ := bcell hb1)) | (go_at_call 121; ((with_reducible refine (spec_goodPlace _ v.to_).mono ?_); rintro e w2 ⟨rfl, hb2⟩)))
  all_goals go_ret
  all_goals exact ⟨by simp_all [Req.good], by with_reducible repeat (first | refine bC ?_ hb2 | refine bC ?_ hb1 | exact bA (Below.refl _ _) _)⟩
theorem impl_goodReq (v : Req) : Calls Tryz.prog 116 #[.agg #[.int .i64 v.size, .int .i64 v.tags, .int .i64 v.from_.x, .int .i64 v.from_.y, .int .i64 v.from_.o, .int .i64 v.from_.c, .int .i64 v.from_.h, .int .i64 v.to_.x, .int .i64 v.to_.y, .int .i64 v.to_.o, .int .i64 v.to_.c, .int .i64 v.to_.h]] w fun e w' => e = .returned (.bool v.good) ∧ Below w.heap.size w w' := by
  go_enter Tryz.func116, Tryz.ntmps116
  go_wp2_with (first | (go_at_call 79; refine (impl_within _ _ _ _).mono ?_; rintro e w' ⟨rfl, rfl⟩) | (go_at_call 156; ((with_reducible refine (impl_goodPlace _ v.from_).mono ?_); rintro e w1 ⟨rfl, hb1⟩; obtain ⟨hc1, hf1⟩ := bcell hb1)) | (go_at_call 156; ((with_reducible refine (impl_goodPlace _ v.to_).mono ?_); rintro e w2 ⟨rfl, hb2⟩)))
  all_goals go_ret
  all_goals exact ⟨by simp_all [Req.good], by with_reducible repeat (first | refine bC ?_ hb2 | refine bC ?_ hb1 | exact bA (Below.refl _ _) _)⟩
theorem spec_nodes (A0 A1 A2 : Option Addr) (n0 n1 n2 c0 c1 c2 : Nat) (h0 : n0 ≤ 1048576) (h1 : n1 ≤ 1048576) : Calls Tryz.prog 89 #[.agg #[.slice A0 n0 c0, .slice A1 n1 c1, .slice A2 n2 c2]] w fun e w' => e = .returned (.int .i64 ((n0 : Int) + 2 * (n1 : Int))) ∧ Below w.heap.size w w' := by
  go_enter Tryz.func89, Tryz.ntmps89
  go_wp2
  go_ret
  exact ⟨rfl, bA (Below.refl _ _) _⟩
theorem impl_vehicles (A0 A1 A2 : Option Addr) (n0 n1 n2 c0 c1 c2 : Nat) (h0 : n0 ≤ 1048576) : Calls Tryz.prog 80 #[.agg #[.slice A0 n0 c0, .slice A1 n1 c1, .slice A2 n2 c2]] w fun e w' => e = .returned (.int .i64 (n0 : Int)) ∧ Below w.heap.size w w' := by
  go_enter Tryz.func80, Tryz.ntmps80
  go_wp2
  go_ret
  exact ⟨rfl, bA (Below.refl _ _) _⟩
theorem impl_requests (A0 A1 A2 : Option Addr) (n0 n1 n2 c0 c1 c2 : Nat) (h1 : n1 ≤ 1048576) : Calls Tryz.prog 97 #[.agg #[.slice A0 n0 c0, .slice A1 n1 c1, .slice A2 n2 c2]] w fun e w' => e = .returned (.int .i64 (n1 : Int)) ∧ Below w.heap.size w w' := by
  go_enter Tryz.func97, Tryz.ntmps97
  go_wp2
  go_ret
  exact ⟨rfl, bA (Below.refl _ _) _⟩
/-- What a region reads stays, and memory only grows. -/
theorem keep3 {w W w1 : World} {g : Nat} {a b c : Value} (h : W.cell? ⟨g, 0, none⟩ = some a ∧ W.cell? ⟨g, 1, none⟩ = some b ∧ W.cell? ⟨g, 2, none⟩ = some c ∧ Below w.heap.size w W) (hb : Below W.heap.size W w1) :
    w1.cell? ⟨g, 0, none⟩ = some a ∧ w1.cell? ⟨g, 1, none⟩ = some b ∧ w1.cell? ⟨g, 2, none⟩ = some c ∧ Below w.heap.size w w1 :=
  ⟨pC hb h.1, pC hb h.2.1, pC hb h.2.2.1, bC h.2.2.2 hb⟩
theorem impl_nodes (A0 A1 A2 : Option Addr) (n0 n1 n2 c0 c1 c2 : Nat) (h0 : n0 ≤ 1048576) (h1 : n1 ≤ 1048576) : Calls Tryz.prog 83 #[.agg #[.slice A0 n0 c0, .slice A1 n1 c1, .slice A2 n2 c2]] w fun e w' => e = .returned (.int .i64 ((n0 : Int) + 2 * (n1 : Int))) ∧ Below w.heap.size w w' := by
  go_enter Tryz.func83, Tryz.ntmps83
  go_wp2_with fail
  go_region_held3 (fun w' => w'.cell? ⟨w.heap.size, 0, none⟩ = some (.slice A0 n0 c0) ∧ w'.cell? ⟨w.heap.size, 1, none⟩ = some (.slice A1 n1 c1) ∧ w'.cell? ⟨w.heap.size, 2, none⟩ = some (.slice A2 n2 c2) ∧ Below w.heap.size w w')
    (first | exact ⟨blk_cell (al_new w _) 0, blk_cell (al_new w _) 1, blk_cell (al_new w _) 2, below_drew (bA (Below.refl _ _) _)⟩ | exact keep3 (by assumption) hb1)
    (first | (go_at_call 80; refine (impl_vehicles _ A0 A1 A2 n0 n1 n2 c0 c1 c2 h0).mono ?_; rintro e w1 ⟨rfl, hb1⟩) | (go_at_call 97; refine (impl_requests _ A0 A1 A2 n0 n1 n2 c0 c1 c2 h1).mono ?_; rintro e w1 ⟨rfl, hb1⟩))
  have hB := (by assumption : w1.cell? ⟨w.heap.size, 0, none⟩ = some (.slice A0 n0 c0) ∧ w1.cell? ⟨w.heap.size, 1, none⟩ = some (.slice A1 n1 c1) ∧ w1.cell? ⟨w.heap.size, 2, none⟩ = some (.slice A2 n2 c2) ∧ Below w.heap.size w w1).2.2.2
  have e1 : IntKind.i64.wrap (2 * (n1 : Int)) = 2 * (n1 : Int) := IntWalk.i64_in _ (by omega)
  have e2 : IntKind.i64.wrap ((n0 : Int) + 2 * (n1 : Int)) = (n0 : Int) + 2 * (n1 : Int) := IntWalk.i64_in _ (by omega)
  rw [e1, e2]
  clear e1 e2
  go_wp2
  go_ret
  exact ⟨rfl, hB⟩
end
end Go.Proofs.YtlhpbpkefkabgaaGreat.L1
namespace Go.Proofs.YtlhpbpkefkabgaaGreat.L1
open Go.RowKit Go.Proofs.YtlhpbpkefkabgaaGreatW.PrintWords Go.Proofs.YtlhpbpkefkabgaaGreat.B
set_option linter.unusedVariables false
set_option linter.unusedSimpArgs false
attribute [local go_sem] mk_cell mk_frozen
theorem Inst.valid_few {x : Inst} (h : x.few = false) : x.valid = false := by simp [Inst.valid, h]
theorem Inst.valid_vs {x : Inst} {k : Nat} (hk : k < x.vs.length) (h : (x.vs.getD k zV).good = false) : x.valid = false := by unfold Inst.valid; rw [allI_false (f := fun k => (x.vs.getD k zV).good) hk h]; simp
theorem Inst.valid_qs {x : Inst} {k : Nat} (hk : k < x.qs.length) (h : (x.qs.getD k zQ).good = false) : x.valid = false := by unfold Inst.valid; rw [allI_false (f := fun k => (x.qs.getD k zQ).good) hk h]; simp
theorem Inst.valid_rs {x : Inst} {k : Nat} (hk : k < x.rs.length) (h : roadAt x.nodes x.rs k = false) : x.valid = false := by unfold Inst.valid; rw [allI_false (f := roadAt x.nodes x.rs) hk h]; simp
theorem nodes_bd (x : Inst) (f0 : x.vs.length ≤ 64) (f1 : x.qs.length ≤ 1000) : 0 ≤ x.nodes ∧ x.nodes ≤ 100000000 := by unfold Inst.nodes; omega
section
variable (w : World)
set_option maxRecDepth 100000 in
set_option maxHeartbeats 2000000 in
theorem spec_validInst (v : Value) (x : Inst) (hr : ReadInst w v x) : Calls Tryz.prog 46 #[v] w fun e w' => e = .returned (.bool x.valid) ∧ Below w.heap.size w w' := by
  obtain ⟨A0, c0, A1, c1, A2, c2, rfl, r0, r1, r2⟩ := hr
  have m0 := r0.2.1; have m1 := r1.2.1; have m2 := r2.2.1
  have HR := sA (And.intro r0 (And.intro r1 r2)); clear r0 r1 r2
  rcases Nat.lt_or_ge 64 x.vs.length with f0 | f0
  · have g0 : decide ((64 : Int) < (x.vs.length : Int)) = true := by simp; omega
    go_enter Tryz.func46, Tryz.ntmps46
    go_wp2
    go_ret
    exact ⟨by rw [Inst.valid_few (by unfold Inst.few; simp; omega)]; rfl, bA (Below.refl _ _) _⟩
  have g0 : decide ((64 : Int) < (x.vs.length : Int)) = false := by simp; omega
  rcases Nat.lt_or_ge 1000 x.qs.length with f1 | f1
  · have g1 : decide ((1000 : Int) < (x.qs.length : Int)) = true := by simp; omega
    go_enter Tryz.func46, Tryz.ntmps46
    go_wp2
    go_ret
    exact ⟨by rw [Inst.valid_few (by unfold Inst.few; simp; omega)]; rfl, bA (Below.refl _ _) _⟩
  have g1 : decide ((1000 : Int) < (x.qs.length : Int)) = false := by simp; omega
  rcases Nat.lt_or_ge 4000 x.rs.length with f2 | f2
  · have g2 : decide ((4000 : Int) < (x.rs.length : Int)) = true := by simp; omega
    go_enter Tryz.func46, Tryz.ntmps46
    go_wp2
    go_ret
    exact ⟨by rw [Inst.valid_few (by unfold Inst.few; simp; omega)]; rfl, bA (Below.refl _ _) _⟩
  have g2 : decide ((4000 : Int) < (x.rs.length : Int)) = false := by simp; omega
  have HF := sA (show x.few = true by unfold Inst.few; simp; omega)
  go_enter Tryz.func46, Tryz.ntmps46
  go_wp2_with fail
  have HB := sA (bA (Below.refl w.heap.size w) (.cells #[.slice A0 x.vs.length c0, .slice A1 x.qs.length c1, .slice A2 x.rs.length c2] 47))
  have HA := sA (al_new w (.cells #[.slice A0 x.vs.length c0, .slice A1 x.qs.length c1, .slice A2 x.rs.length c2] 47))
  go_loopg [3] (x.vs.length + 1) (fun q v wr => ∃ k, q = x.vs.length + 1 - k ∧ k ≤ x.vs.length ∧ v = .int .i64 k ∧ Aside0 (allI k (fun k => (x.vs.getD k zV).good) = true) ∧ Aside0 (wr.heap[w.heap.size]? = some (.cells #[.slice A0 x.vs.length c0, .slice A1 x.qs.length c1, .slice A2 x.rs.length c2] 47 (0, 0))) ∧ Aside0 (Below w.heap.size w wr))
  case atStart => exact ⟨0, by omega, by omega, rfl, ⟨rfl⟩, HA, HB⟩
  case round =>
    clear HA HB
    obtain ⟨k, rfl, hk, rfl, HG0, HA, HB⟩ := hrel
    obtain ⟨a1, a2⟩ := lay0 HA.out
    by_cases hlt : k < x.vs.length
    · obtain ⟨ad, e0, h0, h1⟩ := Kd.flat_cells (d := kVeh) rfl (Kd.C_below HR.out.1 HB.out) zV k hlt
      cases e0
      have hs := allI_succ k (fun k => (x.vs.getD k zV).good)
      have hv := @Inst.valid_vs x k hlt
      generalize x.vs.getD k zV = y at h0 h1 hs hv
      have HS := sA hs; have HV := sA hv; clear hs hv
      have d0 := h0 _ rfl; have d1 := h1 0 _ rfl; have d2 := h1 1 _ rfl; have d3 := h1 2 _ rfl; have d4 := h1 3 _ rfl; have d5 := h1 4 _ rfl; have d6 := h1 5 _ rfl
      clear h0 h1
      cases hgood : y.good with
      | true =>
        have HY := sA hgood; clear hgood
        go_wp2_with (first | (go_at_call 86; refine (spec_goodVeh _ y).mono ?_; rw [HY.out]; rintro e w2 ⟨rfl, hb⟩; have HB1 := sA (bC HB.out hb); have HA1 := sA (bB HA.out hb); clear hb))
        go_roundg (x.vs.length + 1 - (k + 1))
        case measure => omega
        case rel => exact ⟨k + 1, rfl, hlt, by go_num, ⟨by rw [HS.out, HG0.out, HY.out]; rfl⟩, HA1, HB1⟩
      | false =>
        have HY := sA hgood; clear hgood
        go_wp2_with (first | (go_at_call 86; refine (spec_goodVeh _ y).mono ?_; rw [HY.out]; rintro e w2 ⟨rfl, hb⟩; have HB1 := sA (bC HB.out hb); have HA1 := sA (bB HA.out hb); clear hb))
        go_ret
        exact ⟨by rw [HV.out HY.out]; rfl, HB1.out⟩
    · have hkk : k = x.vs.length := by omega
      have HK0 := sA (hkk ▸ HG0.out : allI x.vs.length (fun k => (x.vs.getD k zV).good) = true); clear hkk HG0
      go_wp2_with fail
      clear a1 a2
      go_loopg [4] (x.qs.length + 1) (fun q v wr => ∃ k, q = x.qs.length + 1 - k ∧ k ≤ x.qs.length ∧ v = .int .i64 k ∧ Aside0 (allI k (fun k => (x.qs.getD k zQ).good) = true) ∧ Aside0 (wr.heap[w.heap.size]? = some (.cells #[.slice A0 x.vs.length c0, .slice A1 x.qs.length c1, .slice A2 x.rs.length c2] 47 (0, 0))) ∧ Aside0 (Below w.heap.size w wr))
      case atStart => exact ⟨0, by omega, by omega, rfl, ⟨rfl⟩, HA, HB⟩
      case round =>
        clear HA HB
        obtain ⟨k, rfl, hk, rfl, HG1, HA, HB⟩ := hrel
        obtain ⟨a1, a2⟩ := lay0 HA.out
        by_cases hlt : k < x.qs.length
        · obtain ⟨ad, e0, h0, h1⟩ := Kd.flat_cells (d := kReq) rfl (Kd.C_below HR.out.2.1 HB.out) zQ k hlt
          cases e0
          have hs := allI_succ k (fun k => (x.qs.getD k zQ).good)
          have hv := @Inst.valid_qs x k hlt
          generalize x.qs.getD k zQ = y at h0 h1 hs hv
          have HS := sA hs; have HV := sA hv; clear hs hv
          have d0 := h0 _ rfl; have d1 := h1 0 _ rfl; have d2 := h1 1 _ rfl; have d3 := h1 2 _ rfl; have d4 := h1 3 _ rfl; have d5 := h1 4 _ rfl; have d6 := h1 5 _ rfl; have d7 := h1 6 _ rfl; have d8 := h1 7 _ rfl; have d9 := h1 8 _ rfl; have d10 := h1 9 _ rfl; have d11 := h1 10 _ rfl
          clear h0 h1
          cases hgood : y.good with
          | true =>
            have HY := sA hgood; clear hgood
            go_wp2_with (first | (go_at_call 87; refine (spec_goodReq _ y).mono ?_; rw [HY.out]; rintro e w2 ⟨rfl, hb⟩; have HB1 := sA (bC HB.out hb); have HA1 := sA (bB HA.out hb); clear hb))
            go_roundg (x.qs.length + 1 - (k + 1))
            case measure => omega
            case rel => exact ⟨k + 1, rfl, hlt, by go_num, ⟨by rw [HS.out, HG1.out, HY.out]; rfl⟩, HA1, HB1⟩
          | false =>
            have HY := sA hgood; clear hgood
            go_wp2_with (first | (go_at_call 87; refine (spec_goodReq _ y).mono ?_; rw [HY.out]; rintro e w2 ⟨rfl, hb⟩; have HB1 := sA (bC HB.out hb); have HA1 := sA (bB HA.out hb); clear hb))
            go_ret
            exact ⟨by rw [HV.out HY.out]; rfl, HB1.out⟩
        · have hkk : k = x.qs.length := by omega
          have HK1 := sA (hkk ▸ HG1.out : allI x.qs.length (fun k => (x.qs.getD k zQ).good) = true); clear hkk HG1
          go_wp2_with fail
          clear a1 a2
          go_loopg [5] (x.rs.length + 1) (fun q v wr => ∃ k, q = x.rs.length + 1 - k ∧ k ≤ x.rs.length ∧ v = .int .i64 k ∧ Aside0 (allI k (roadAt x.nodes x.rs) = true) ∧ Aside0 (wr.heap[w.heap.size]? = some (.cells #[.slice A0 x.vs.length c0, .slice A1 x.qs.length c1, .slice A2 x.rs.length c2] 47 (0, 0))) ∧ Aside0 (Below w.heap.size w wr))
          case atStart => exact ⟨0, by omega, by omega, rfl, ⟨rfl⟩, HA, HB⟩
          case round =>
            clear HA HB
            obtain ⟨k, rfl, hk, rfl, HG2, HA, HB⟩ := hrel
            obtain ⟨a1, a2⟩ := lay0 HA.out
            by_cases hlt : k < x.rs.length
            · obtain ⟨ad, e0, h0, h1⟩ := Kd.flat_cells (d := kRoad) rfl (Kd.C_below HR.out.2.2 HB.out) zR k hlt
              cases e0
              have hs := allI_succ k (roadAt x.nodes x.rs)
              have hv := @Inst.valid_rs x k hlt
              have HN := sA (nodes_bd x f0 f1)
              rcases Nat.eq_zero_or_pos k with hk0 | hk0
              · -- the first road
                have hat : roadAt x.nodes x.rs k = (x.rs.getD k zR).good x.nodes := by simp [roadAt, hk0]
                have hd : decide ((0 : Int) < (k : Int)) = false := by simp; omega
                have hd' : decide (0 < k) = false := by simp; omega
                have HK0 := sA hk0; clear hk0
                generalize x.rs.getD k zR = y at h0 h1 hat
                have HT := sA hat; have HS := sA hs; have HV := sA hv; clear hat hs hv
                have d0 := h0 _ rfl; have d1 := h1 0 _ rfl; have d2 := h1 1 _ rfl
                have hlen0 : x.vs.length ≤ 1048576 := by omega
                have hlen1 : x.qs.length ≤ 1048576 := by omega
                cases hgood : y.good x.nodes with
                | true =>
                  have HY := sA hgood; clear hgood
                  go_wp2_with fail
                  go_region_held3 (fun w' => w'.cell? ⟨w.heap.size, 0, none⟩ = some (.slice A0 x.vs.length c0) ∧ w'.cell? ⟨w.heap.size, 1, none⟩ = some (.slice A1 x.qs.length c1) ∧ w'.cell? ⟨w.heap.size, 2, none⟩ = some (.slice (some ad) x.rs.length c2) ∧ w'.cell? (ad.add (k * 3)) = some (.int .i64 y.a) ∧ w'.cell? ⟨(ad.add (k * 3)).block, (ad.add (k * 3)).off + (0 + 1), none⟩ = some (.int .i64 y.b) ∧ w'.cell? ⟨(ad.add (k * 3)).block, (ad.add (k * 3)).off + (1 + 1), none⟩ = some (.int .i64 y.t) ∧ Below wr.heap.size wr w')
                    (first | exact ⟨a1 0, a1 1, a1 2, d0, d1, d2, below_drew (Below.refl _ _)⟩ | exact keepC6 (by assumption) hb2 | exact keepC6 (by assumption) hb3)
                    (first | (go_at_call 89; refine (spec_nodes _ A0 A1 (some ad) x.vs.length x.qs.length x.rs.length c0 c1 c2 hlen0 hlen1).mono ?_; rintro e w2 ⟨rfl, hb2⟩) | (go_at_call 88; refine (spec_goodRoad _ y x.nodes HN.out.1 HN.out.2).mono ?_; rw [HY.out]; rintro e w3 ⟨rfl, hb3⟩))
                  rename_i hH
                  replace d0 := pC hH.2.2.2.2.2.2 d0
                  replace d1 := pC hH.2.2.2.2.2.2 d1
                  replace d2 := pC hH.2.2.2.2.2.2 d2
                  have HB2 := sA (bC HB.out hH.2.2.2.2.2.2); have HA2 := sA (bB HA.out hH.2.2.2.2.2.2); clear hH
                  obtain ⟨b1, b2⟩ := lay0 HA2.out
                  go_wp2_with fail
                  go_quiet (fail)
                  clear b1 b2
                  go_wp2
                  go_roundg (x.rs.length + 1 - (k + 1))
                  case measure => omega
                  case rel => exact ⟨k + 1, rfl, hlt, by go_num, ⟨by rw [HS.out, HG2.out, HT.out, HY.out]; rfl⟩, HA2, ⟨pw_below_drewN HB2.out _⟩⟩
                | false =>
                  have HY := sA hgood; clear hgood
                  go_wp2_with fail
                  go_region_held3 (fun w' => w'.cell? ⟨w.heap.size, 0, none⟩ = some (.slice A0 x.vs.length c0) ∧ w'.cell? ⟨w.heap.size, 1, none⟩ = some (.slice A1 x.qs.length c1) ∧ w'.cell? ⟨w.heap.size, 2, none⟩ = some (.slice (some ad) x.rs.length c2) ∧ w'.cell? (ad.add (k * 3)) = some (.int .i64 y.a) ∧ w'.cell? ⟨(ad.add (k * 3)).block, (ad.add (k * 3)).off + (0 + 1), none⟩ = some (.int .i64 y.b) ∧ w'.cell? ⟨(ad.add (k * 3)).block, (ad.add (k * 3)).off + (1 + 1), none⟩ = some (.int .i64 y.t) ∧ Below wr.heap.size wr w')
                    (first | exact ⟨a1 0, a1 1, a1 2, d0, d1, d2, below_drew (Below.refl _ _)⟩ | exact keepC6 (by assumption) hb2 | exact keepC6 (by assumption) hb3)
                    (first | (go_at_call 89; refine (spec_nodes _ A0 A1 (some ad) x.vs.length x.qs.length x.rs.length c0 c1 c2 hlen0 hlen1).mono ?_; rintro e w2 ⟨rfl, hb2⟩) | (go_at_call 88; refine (spec_goodRoad _ y x.nodes HN.out.1 HN.out.2).mono ?_; rw [HY.out]; rintro e w3 ⟨rfl, hb3⟩))
                  rename_i hH
                  replace d0 := pC hH.2.2.2.2.2.2 d0
                  replace d1 := pC hH.2.2.2.2.2.2 d1
                  replace d2 := pC hH.2.2.2.2.2.2 d2
                  have HB2 := sA (bC HB.out hH.2.2.2.2.2.2); have HA2 := sA (bB HA.out hH.2.2.2.2.2.2); clear hH
                  obtain ⟨b1, b2⟩ := lay0 HA2.out
                  go_wp2_with fail
                  go_ret
                  exact ⟨by rw [HV.out (by simp [HT.out, HY.out])]; rfl, HB2.out⟩
              · -- a later road
                have hat : roadAt x.nodes x.rs k = ((x.rs.getD k zR).good x.nodes && (x.rs.getD (k - 1) zR).lt (x.rs.getD k zR)) := by simp [roadAt, Nat.ne_of_gt hk0]
                have hd : decide ((0 : Int) < (k : Int)) = true := by simp; omega
                have hd' : decide (0 < k) = true := by simp; omega
                obtain ⟨ad', e0', g0, g1⟩ := Kd.flat_cells (d := kRoad) rfl (Kd.C_below HR.out.2.2 HB.out) zR (k - 1) (by omega)
                cases e0'
                generalize x.rs.getD (k - 1) zR = z at g0 g1 hat
                generalize x.rs.getD k zR = y at h0 h1 hat
                have HT := sA hat; have HS := sA hs; have HV := sA hv; clear hat hs hv
                have d0 := h0 _ rfl; have d1 := h1 0 _ rfl; have d2 := h1 1 _ rfl
                have e0 := g0 _ rfl; have e1 := g1 0 _ rfl; have e2 := g1 1 _ rfl
                have hlen0 : x.vs.length ≤ 1048576 := by omega
                have hlen1 : x.qs.length ≤ 1048576 := by omega
                cases hgood : y.good x.nodes with
                | true =>
                  have HY := sA hgood; clear hgood
                  go_wp2_with fail
                  go_region_held3 (fun w' => w'.cell? ⟨w.heap.size, 0, none⟩ = some (.slice A0 x.vs.length c0) ∧ w'.cell? ⟨w.heap.size, 1, none⟩ = some (.slice A1 x.qs.length c1) ∧ w'.cell? ⟨w.heap.size, 2, none⟩ = some (.slice (some ad) x.rs.length c2) ∧ w'.cell? (ad.add (k * 3)) = some (.int .i64 y.a) ∧ w'.cell? ⟨(ad.add (k * 3)).block, (ad.add (k * 3)).off + (0 + 1), none⟩ = some (.int .i64 y.b) ∧ w'.cell? ⟨(ad.add (k * 3)).block, (ad.add (k * 3)).off + (1 + 1), none⟩ = some (.int .i64 y.t) ∧ Below wr.heap.size wr w')
                    (first | exact ⟨a1 0, a1 1, a1 2, d0, d1, d2, below_drew (Below.refl _ _)⟩ | exact keepC6 (by assumption) hb2 | exact keepC6 (by assumption) hb3)
                    (first | (go_at_call 89; refine (spec_nodes _ A0 A1 (some ad) x.vs.length x.qs.length x.rs.length c0 c1 c2 hlen0 hlen1).mono ?_; rintro e w2 ⟨rfl, hb2⟩) | (go_at_call 88; refine (spec_goodRoad _ y x.nodes HN.out.1 HN.out.2).mono ?_; rw [HY.out]; rintro e w3 ⟨rfl, hb3⟩))
                  rename_i hH
                  replace d0 := pC hH.2.2.2.2.2.2 d0
                  replace d1 := pC hH.2.2.2.2.2.2 d1
                  replace d2 := pC hH.2.2.2.2.2.2 d2
                  replace e0 := pC hH.2.2.2.2.2.2 e0
                  replace e1 := pC hH.2.2.2.2.2.2 e1
                  replace e2 := pC hH.2.2.2.2.2.2 e2
                  have HB2 := sA (bC HB.out hH.2.2.2.2.2.2); have HA2 := sA (bB HA.out hH.2.2.2.2.2.2); clear hH
                  obtain ⟨b1, b2⟩ := lay0 HA2.out
                  go_wp2_with fail
                  cases hlt2 : z.lt y with
                  | true =>
                    have HZ := sA hlt2; clear hlt2
                    have q0 : (k : Int) - 1 < (x.rs.length : Int) := by omega
                    have q1 : (0 : Int) ≤ (k : Int) - 1 := by omega
                    have q2 : (1 : Int) ≤ (k : Int) := by omega
                    have q3 : IntKind.i64.wrap ((k : Int) - 1) = (k : Int) - 1 := IntWalk.i64_in _ (by omega)
                    have q4 : ((k : Int) - 1).toNat = k - 1 := by omega
                    go_still_tail 14, (by kernel_rfl)
                    clear q0 q1 q2 q3 q4
                    go_wp2_with (go_at_call 90; refine (spec_before _ z y).mono ?_; rw [HZ.out]; rintro e w4 ⟨rfl, hb⟩; have HB3 := sA (bC (below_drew HB2.out) hb); have HA3 := sA (bB (blk_drew HA2.out) hb); clear hb)
                    go_roundg (x.rs.length + 1 - (k + 1))
                    case measure => omega
                    case rel => exact ⟨k + 1, rfl, hlt, by go_num, ⟨by rw [HS.out, HG2.out, HT.out, HY.out, HZ.out]; rfl⟩, HA3, HB3⟩
                  | false =>
                    have HZ := sA hlt2; clear hlt2
                    have q0 : (k : Int) - 1 < (x.rs.length : Int) := by omega
                    have q1 : (0 : Int) ≤ (k : Int) - 1 := by omega
                    have q2 : (1 : Int) ≤ (k : Int) := by omega
                    have q3 : IntKind.i64.wrap ((k : Int) - 1) = (k : Int) - 1 := IntWalk.i64_in _ (by omega)
                    have q4 : ((k : Int) - 1).toNat = k - 1 := by omega
                    go_still_tail 14, (by kernel_rfl)
                    clear q0 q1 q2 q3 q4
                    go_wp2_with (go_at_call 90; refine (spec_before _ z y).mono ?_; rw [HZ.out]; rintro e w4 ⟨rfl, hb⟩; have HB3 := sA (bC (below_drew HB2.out) hb); have HA3 := sA (bB (blk_drew HA2.out) hb); clear hb)
                    go_ret
                    exact ⟨by rw [HV.out (by simp [HT.out, HY.out, HZ.out])]; rfl, HB3.out⟩
                | false =>
                  have HY := sA hgood; clear hgood
                  go_wp2_with fail
                  go_region_held3 (fun w' => w'.cell? ⟨w.heap.size, 0, none⟩ = some (.slice A0 x.vs.length c0) ∧ w'.cell? ⟨w.heap.size, 1, none⟩ = some (.slice A1 x.qs.length c1) ∧ w'.cell? ⟨w.heap.size, 2, none⟩ = some (.slice (some ad) x.rs.length c2) ∧ w'.cell? (ad.add (k * 3)) = some (.int .i64 y.a) ∧ w'.cell? ⟨(ad.add (k * 3)).block, (ad.add (k * 3)).off + (0 + 1), none⟩ = some (.int .i64 y.b) ∧ w'.cell? ⟨(ad.add (k * 3)).block, (ad.add (k * 3)).off + (1 + 1), none⟩ = some (.int .i64 y.t) ∧ Below wr.heap.size wr w')
                    (first | exact ⟨a1 0, a1 1, a1 2, d0, d1, d2, below_drew (Below.refl _ _)⟩ | exact keepC6 (by assumption) hb2 | exact keepC6 (by assumption) hb3)
                    (first | (go_at_call 89; refine (spec_nodes _ A0 A1 (some ad) x.vs.length x.qs.length x.rs.length c0 c1 c2 hlen0 hlen1).mono ?_; rintro e w2 ⟨rfl, hb2⟩) | (go_at_call 88; refine (spec_goodRoad _ y x.nodes HN.out.1 HN.out.2).mono ?_; rw [HY.out]; rintro e w3 ⟨rfl, hb3⟩))
                  rename_i hH
                  replace d0 := pC hH.2.2.2.2.2.2 d0
                  replace d1 := pC hH.2.2.2.2.2.2 d1
                  replace d2 := pC hH.2.2.2.2.2.2 d2
                  replace e0 := pC hH.2.2.2.2.2.2 e0
                  replace e1 := pC hH.2.2.2.2.2.2 e1
                  replace e2 := pC hH.2.2.2.2.2.2 e2
                  have HB2 := sA (bC HB.out hH.2.2.2.2.2.2); have HA2 := sA (bB HA.out hH.2.2.2.2.2.2); clear hH
                  obtain ⟨b1, b2⟩ := lay0 HA2.out
                  go_wp2_with fail
                  go_ret
                  exact ⟨by rw [HV.out (by simp [HT.out, HY.out])]; rfl, HB2.out⟩
            · have hkk : k = x.rs.length := by omega
              have HK2 := sA (hkk ▸ HG2.out : allI x.rs.length (roadAt x.nodes x.rs) = true); clear hkk HG2
              go_wp2
              go_ret
              exact ⟨by rw [show x.valid = true by unfold Inst.valid; rw [HF.out, HK0.out, HK1.out, HK2.out]; rfl]; rfl, HB.out⟩
end
end Go.Proofs.YtlhpbpkefkabgaaGreat.L1
/- In use: 'refine Grow.wp_region_growB (by kernel_rfl) (by kernel_rfl) ?_', then for each operation lex_skip or lex_do and lex_norm (see gen_valid.py), at the end lex_nil. -/
namespace Go.Proofs.YtlhpbpkefkabgaaGreat.Grow
open Go.RowKit Go.Proofs.YtlhpbpkefkabgaaGreatW.PrintWords Go.Proofs.YtlhpbpkefkabgaaGreat.B
section
variable {P : Program} {ops : Array Oper} {md : Region.Mode} {J : World → Prop}
/-- The operation comes to value v, and J holds behind it. -/
def Upon (P : Program) (J : World → Prop) (v : Value) : Result Next → Prop
  | .ok (.value u) w => u = v ∧ J w
  | .ok .skip w => v = undef ∧ J w
  | .ok (.enter f args) w => Calls P f args w fun e w' => e = .returned v ∧ J w'
  | _ => False
def Gives (P : Program) (ops : Array Oper) (J : World → Prop) (o : Oper) (v : Value) (a : Act) : Prop :=
  (Region.wanted o (yielded ops a.tmps) = true ∧ ∀ w, J w → Upon P J v ((execOp a.eval o).run P w)) ∨ (Region.wanted o (yielded ops a.tmps) = false ∧ v = undef)
/-- The operations one behind the other, as the text has them. -/
def Lex (P : Program) (ops : Array Oper) (J : World → Prop) (Q : Act → Prop) : List Oper → Act → Prop
  | [], a => Q a
  | o :: r, a => ∃ v, Gives P ops J o v a ∧ Lex P ops J Q r (a.put o.dst v)
def AnyJ (P : Program) (md : Region.Mode) (ops : Array Oper) (J : World → Prop) (Q : Act → Prop) : Nat → Array Bool → Act → Prop
  | 0, l, a => Region.ready md ops l = [] ∧ Q a
  | n + 1, l, a => (Region.ready md ops l = [] → Q a) ∧ ∀ i ∈ Region.ready md ops l, ∀ o, ops[i]? = some o → ∃ v, Gives P ops J o v a ∧ AnyJ P md ops J Q n (l.setIfInBounds i true) (a.put o.dst v)
theorem Gives.same {o : Oper} {v : Value} {a a' : Act} (h : Gives P ops J o v a) (he : execOp a'.eval o = execOp a.eval o) (hw : Region.wanted o (yielded ops a'.tmps) = Region.wanted o (yielded ops a.tmps)) : Gives P ops J o v a' := by
  unfold Gives at *
  rw [he, hw]
  exact h
theorem any_first {Q : Act → Prop} {i : Nat} {oi : Oper} {v : Value} (hi : ops[i]? = some oi) (hsel : ∀ (j : Nat) (o : Oper) cs b, ops[j]? = some o → o.op ≠ .select cs b) :
    ∀ (n : Nat) (l : Array Bool) (a : Act),
      (∀ j oj, ops[j]? = some oj → j ≠ i → l.getD j true = false → (∀ e ∈ oj.after, Region.binds md e = true → e.on ≠ i) → oi.apart ops oj = true) →
      i ∈ Region.ready md ops l → Gives P ops J oi v a → AnyJ P md ops J Q n (l.setIfInBounds i true) (a.put oi.dst v) → AnyJ P md ops J Q (n + 1) l a := by
  intro n
  induction n with
  | zero =>
    intro l a _ hr hg H
    refine ⟨fun h => (by rw [h] at hr; cases hr), fun j hj o ho => ?_⟩
    by_cases e : j = i
    · subst e
      rw [hi] at ho; injection ho with ho; subst ho
      exact ⟨v, hg, H⟩
    · have := ready_mono hj e
      rw [H.1] at this; cases this
  | succ n ih =>
    intro l a hfree hr hg H
    refine ⟨fun h => (by rw [h] at hr; cases hr), fun j hj oj hoj => ?_⟩
    by_cases e : j = i
    · subst e
      rw [hi] at hoj; injection hoj with hoj; subst hoj
      exact ⟨v, hg, H⟩
    · obtain ⟨u, hu, hK⟩ := H.2 j (ready_mono hj e) oj hoj
      obtain ⟨hjun, oj', hoj', hall⟩ := mem_ready.1 hj
      rw [hoj] at hoj'; injection hoj' with hoj'; subst hoj'
      have hnot : ∀ e ∈ oj.after, Region.binds md e = true → e.on ≠ i := fun e he hb heq => by
        have h1 := hall e he hb
        have h0 := (mem_ready.1 hr).1
        rw [heq] at h1
        rcases Nat.lt_or_ge i l.size with h' | h'
        · simp [h'] at h0 h1; rw [h0] at h1; cases h1
        · simp [Array.getElem?_eq_none h'] at h1
      obtain ⟨h1, h2, h3⟩ := Oper.apart_spec (hfree j oj hoj e hjun hnot)
      refine ⟨u, hu.same (execOp_put oj (fun cs b => hsel j oj cs b hoj) a oi.dst v h1).symm (wanted_put oj a oi.dst v h1).symm, ?_⟩
      refine ih (l.setIfInBounds j true) _ (fun k ok hk hki hun hno => hfree k ok hk hki ?_ hno) (ready_mono hr (Ne.symm e)) (hg.same (execOp_put oi (fun cs b => hsel i oi cs b hi) a oj.dst u h3) (wanted_put oi a oj.dst u h3)) ?_
      · by_cases hjk : j = k
        · subst hjk; exact hjun
        · rw [getD_set_ne true hjk] at hun; exact hun
      · rw [Array.setIfInBounds_comm _ _ e, ← Act.put_comm a v u h2]
        exact hK
theorem any_lex {Q : Act → Prop} (hs : Region.noSelect ops = true) : ∀ (l : List Oper) (k : Nat) (b : Array Bool) (a : Act), (∀ j, l[j]? = ops[k + j]?) →
    Region.lexFrom md ops l.length k b = true → Lex P ops J Q l a → AnyJ P md ops J Q l.length b a
  | [], _, _, _, _, hB, h => ⟨by simpa [Region.lexFrom] using hB, h⟩
  | o :: l, k, b, a, hl, hB, h => by
    have h0 : ops[k]? = some o := by simpa using (hl 0).symm
    simp only [List.length_cons, Region.lexFrom, Bool.and_eq_true] at hB
    obtain ⟨⟨hr, hf⟩, hB'⟩ := hB
    obtain ⟨v, hg, hK⟩ := h
    exact any_first h0 (Region.noSelect_spec hs) l.length b a (Region.free_spec h0 hf) (by simpa using hr) hg
      (any_lex hs l (k + 1) _ _ (fun j => by have := hl (j + 1); simpa [Nat.add_assoc, Nat.add_comm 1 j] using this) hB' hK)
theorem any_sound {Q : Act → Prop} {Q' : Exit → Act → World → Prop} (hQ : ∀ a w, Q a → J w → Q' .normal a w) : ∀ (n : Nat) (l : Array Bool) (a : Act) (w : World), AnyJ P md ops J Q n l a → J w → wpAny P md ops Q' n l a w
  | 0, _, _, _, h, hJ => ⟨h.1, hQ _ _ h.2 hJ⟩
  | n + 1, l, a, w, h, hJ => by
    refine ⟨fun h0 => hQ _ _ (h.1 h0) hJ, fun i hi => ?_⟩
    obtain ⟨_, o, ho, _⟩ := mem_ready.1 hi
    obtain ⟨v, hg, hK⟩ := h.2 i hi o ho
    unfold wpOp
    simp only [ho]
    rcases hg with ⟨hw, hv⟩ | ⟨hw, rfl⟩
    · simp only [hw, if_true]
      refine .inl ?_
      have hu := hv w hJ
      unfold Oper.wp
      generalize (execOp a.eval o).run P w = r at hu
      cases r with
      | ok x w' =>
        cases x <;> simp only [Upon] at hu <;> simp only [Oper.upon]
        case value u => obtain ⟨rfl, hj⟩ := hu; exact any_sound hQ n _ _ _ hK hj
        case skip => obtain ⟨rfl, hj⟩ := hu; exact any_sound hQ n _ _ _ hK hj
        case enter f args => exact hu.mono fun e w'' ⟨he, hj⟩ => by subst he; exact any_sound hQ n _ _ _ hK hj
      | halt x w' => simp only [Upon] at hu
    · simp only [hw, Bool.false_eq_true, if_false]
      exact any_sound hQ n _ _ _ hK hJ
theorem wp_region_grow {id : Nat} {Q : Exit → Act → World → Prop} {a : Act} {w : World} {l : List Oper} (J : World → Prop) (hm : P.follows .mixedOrders = true) (hB : Region.lexB .any l.toArray = true) (hJ : J { w with drawn := w.drawn + 1 })
    (h : Lex P l.toArray J (fun a' => ∀ w', J w' → Q .normal a' w') l a) : (Code.region id l.toArray true).wp P Q a w := by
  simp only [Region.lexB, Bool.and_eq_true] at hB
  refine wp_region_any hm (any_sound (Q := fun a' => ∀ w', J w' → Q .normal a' w') (fun _ _ hq hj => hq _ hj) _ _ _ _ ?_ hJ)
  have := any_lex (md := .any) (P := P) (J := J) hB.1 l 0 (Array.replicate l.toArray.size false) a (by simp) (by simpa using hB.2) h
  simpa using this
theorem lex_nil {Q : Act → Prop} {a : Act} (h : Q a) : Lex P ops J Q [] a := h
theorem lex_do {Q : Act → Prop} {o : Oper} {r : List Oper} {a : Act} (v : Value) (hw : Region.wanted o (yielded ops a.tmps) = true) (hr : ∀ w, J w → Upon P J v ((execOp a.eval o).run P w)) (h : Lex P ops J Q r (a.put o.dst v)) : Lex P ops J Q (o :: r) a :=
  ⟨v, .inl ⟨hw, hr⟩, h⟩
theorem lex_skip {Q : Act → Prop} {o : Oper} {r : List Oper} {a : Act} (hw : Region.wanted o (yielded ops a.tmps) = false) (h : Lex P ops J Q r (a.put o.dst undef)) : Lex P ops J Q (o :: r) a :=
  ⟨undef, .inr ⟨hw, rfl⟩, h⟩
theorem lex_norm {Q : Act → Prop} {r : List Oper} {a : Act} (h : ∀ K : Act → Prop, (∀ a', Lex P ops J Q r a' → K a') → K a) : Lex P ops J Q r a := h _ fun _ h => h
theorem Upon.val {v : Value} {w : World} (h : J w) : Upon P J v (.ok (.value v) w) := ⟨rfl, h⟩
theorem Upon.skip {w : World} (h : J w) : Upon P J undef (.ok .skip w) := ⟨rfl, h⟩
theorem Upon.call {v : Value} {w : World} {f : FuncId} {args : Array Value} (h : Calls P f args w fun e w' => e = .returned v ∧ J w') : Upon P J v (.ok (.enter f args) w) := h
/-- w1 has grown out of w0. -/
structure Up (w0 w1 : World) : Prop where
  out : Below w0.heap.size w0 w1
/-- A call whose answer is a number and which touches nothing that was there. -/
theorem Upon.callB {v : Value} {w0 w : World} {f : FuncId} {args : Array Value} (hj : Up w0 w) (h : Calls P f args w fun e w' => e = .returned v ∧ Below w.heap.size w w') : Upon P (Up w0) v (.ok (.enter f args) w) := h.mono fun _ _ h => ⟨h.1, ⟨Go.Proofs.YtlhpbpkefkabgaaGreat.B.bel_call hj.out h.2⟩⟩
theorem wp_region_growB {id : Nat} {Q : Exit → Act → World → Prop} {a : Act} {w : World} {l : List Oper} (hm : P.follows .mixedOrders = true) (hB : Region.lexB .any l.toArray = true)
    (h : Lex P l.toArray (Up w) (fun a' => ∀ w', Up w w' → Q .normal a' w') l a) : (Code.region id l.toArray true).wp P Q a w :=
  wp_region_grow _ hm hB ⟨below_drew (Below.refl _ _)⟩ h
end
end Go.Proofs.YtlhpbpkefkabgaaGreat.Grow
