/- What the helpers of the laws answer over slices of vehicles, requests, roads: copies, comparisons, sizes. What the laws' helpers answer over a whole instance: its copy, its comparison with itself, its size. What ValidInst of the reference and of the program answer: one and the same condition on the instance. -/
import Derived.Test.YtlhpbpkefkabgaaGreatQS2
namespace Go.Proofs.YtlhpbpkefkabgaaGreat.L1
open Go.RowKit Go.Proofs.YtlhpbpkefkabgaaGreatW.PrintWords Go.Proofs.YtlhpbpkefkabgaaGreat.B
set_option linter.unusedVariables false
set_option linter.unusedSimpArgs false
section
variable (w : World)
theorem toPlace (v : Place) : Calls Tryz.prog 96 #[.agg #[.int .i64 v.x, .int .i64 v.y, .int .i64 v.o, .int .i64 v.c, .int .i64 v.h]] w fun e w' => e = .returned (.agg #[.int .i64 v.x, .int .i64 v.y, .int .i64 v.o, .int .i64 v.c, .int .i64 v.h]) ∧ Below w.heap.size w w' := by
  go_enter Tryz.func96, Tryz.ntmps96
  go_wp2
  refine bodyPost_ret (v := .agg #[.int .i64 v.x, .int .i64 v.y, .int .i64 v.o, .int .i64 v.c, .int .i64 v.h]) (by simp [results, Tryz.results96, go_sem]) rfl ⟨rfl, ?_⟩
  exact by with_reducible repeat (first | refine bel_set ?_ (by omega) _ | refine bA ?_ _ | refine below_drew ?_ | exact Below.refl _ _)
theorem eqPlace (v : Place) : Calls Tryz.prog 108 #[.agg #[.int .i64 v.x, .int .i64 v.y, .int .i64 v.o, .int .i64 v.c, .int .i64 v.h], .agg #[.int .i64 v.x, .int .i64 v.y, .int .i64 v.o, .int .i64 v.c, .int .i64 v.h]] w fun e w' => e = .returned (.bool true) ∧ Below w.heap.size w w' := by
  go_enter Tryz.func108, Tryz.ntmps108
  go_wp2
  go_ret
  exact ⟨rfl, by with_reducible repeat (first | refine bel_set ?_ (by omega) _ | refine bA ?_ _ | refine below_drew ?_ | exact Below.refl _ _)⟩
set_option maxHeartbeats 1000000 in
theorem toVeh (v : Veh) : Calls Tryz.prog 62 #[.agg #[.int .i64 v.room, .int .i64 v.skills, .int .i64 v.home.x, .int .i64 v.home.y, .int .i64 v.home.o, .int .i64 v.home.c, .int .i64 v.home.h]] w fun e w' => e = .returned (.agg #[.int .i64 v.room, .int .i64 v.skills, .int .i64 v.home.x, .int .i64 v.home.y, .int .i64 v.home.o, .int .i64 v.home.c, .int .i64 v.home.h]) ∧ Below w.heap.size w w' := by
  go_enter Tryz.func62, Tryz.ntmps62
  go_wp2_with (first | (go_at_call 96; refine (toPlace _ v.home).mono ?_; rintro e w0 ⟨rfl, hb0⟩; obtain ⟨hc0, hf0⟩ := bcell hb0))
  refine bodyPost_ret (v := .agg #[.int .i64 v.room, .int .i64 v.skills, .int .i64 v.home.x, .int .i64 v.home.y, .int .i64 v.home.o, .int .i64 v.home.c, .int .i64 v.home.h]) (by simp [results, Tryz.results62, go_sem, hc0, hf0]) rfl ⟨rfl, ?_⟩
  exact by with_reducible repeat (first | refine bel_set ?_ (by omega) _ | refine bA ?_ _ | refine below_drew ?_ | refine bC ?_ hb0 | exact Below.refl _ _)
set_option maxRecDepth 100000 in
theorem toVehS (A : Option Addr) (c : Nat) (xs : List Veh) (hr : kVeh.C w A xs.length xs) (hm : xs.length ≤ 1048576) : Calls Tryz.prog 31 #[.slice A xs.length c] w fun e w' => ∃ v, e = .returned v ∧ kVeh.R 71 w' w.heap.size (fun _ => True) v xs ∧ Below w.heap.size w w' := by
  have HR := sA hr; clear hr
  go_enter Tryz.func31, Tryz.ntmps31
  go_wp2_with (refine Kd.flat_make kVeh rfl 7 rfl rfl 43 _ _ rfl xs.length rfl rfl 71 Tryz.underlying43 zV 56 (by kernel_rfl) (by decide) (by decide) (by omega) (Below.refl _ _) ?_; intro v1 w1 hr1 hb1 _)
  have HR1 := sA hr1; have HB1 := sA hb1; clear hr1 hb1
  go_loopg [4] (xs.length + 1) (fun q v4 wr => ∃ k ys, q = xs.length + 1 - k ∧ k ≤ xs.length ∧ v4 = .int .i64 k ∧ Aside0 (Filled xs k ys) ∧ Aside0 (kVeh.R 71 wr w.heap.size (fun _ => True) v1 ys) ∧ Aside0 (Below w.heap.size w wr))
  case atStart => exact ⟨0, _, by omega, by omega, rfl, ⟨Filled.zero xs zV⟩, HR1, HB1⟩
  case round =>
    obtain ⟨k, ys, rfl, hk, rfl, HF, HO, HB⟩ := hrel
    clear HR1 HB1
    by_cases hlt : k < xs.length
    · have hf := HF.out.step hlt zV
      obtain ⟨ad, e0, h0, h1⟩ := Kd.flat_cells (d := kVeh) rfl (Kd.C_below HR.out HB.out) zV k hlt
      cases e0
      generalize xs.getD k zV = x at hf h0 h1
      have HF1 := sA hf; clear hf
      have c0 := h0 _ rfl; have c1 := h1 0 _ rfl; have c2 := h1 1 _ rfl; have c3 := h1 2 _ rfl; have c4 := h1 3 _ rfl; have c5 := h1 4 _ rfl; have c6 := h1 5 _ rfl
      clear h0 h1
      obtain ⟨g, cap, rfl, hg, _, _⟩ := Kd.R_form HO.out (by rw [HF.out.1]; omega)
      have hky : k < ys.length := by rw [HF.out.1]; exact hlt
      go_wp2_with (first | (go_at_call 62; refine (toVeh _ x).mono ?_; rintro e w2 ⟨rfl, hb⟩) | ((with_reducible refine gate_store (t := 71) (p := 21) rfl ?_); refine Kd.flat_store kVeh rfl rfl rfl 71 _ _ rfl k x rfl rfl rfl (by kernel_rfl) (Kd.R_below HO.out hb) hky (bC HB.out hb) ?_; intro w3 hr3 hb3 _; have HO1 := sA hr3; have HB1 := sA hb3; clear hr3 hb3 hb))
      go_roundg (xs.length + 1 - (k + 1))
      case measure => omega
      case rel => exact ⟨k + 1, _, rfl, hlt, by go_num, HF1, HO1, HB1⟩
    · go_wp2
      go_ret
      exact ⟨_, rfl, by rw [← HF.out.done (by omega)]; exact HO.out, HB.out⟩
set_option maxHeartbeats 1000000 in
theorem eqVeh (v : Veh) : Calls Tryz.prog 71 #[.agg #[.int .i64 v.room, .int .i64 v.skills, .int .i64 v.home.x, .int .i64 v.home.y, .int .i64 v.home.o, .int .i64 v.home.c, .int .i64 v.home.h], .agg #[.int .i64 v.room, .int .i64 v.skills, .int .i64 v.home.x, .int .i64 v.home.y, .int .i64 v.home.o, .int .i64 v.home.c, .int .i64 v.home.h]] w fun e w' => e = .returned (.bool true) ∧ Below w.heap.size w w' := by
  go_enter Tryz.func71, Tryz.ntmps71
  go_wp2_with fail
  refine (eqPlace _ v.home).mono ?_; rintro e w0 ⟨rfl, hb0⟩; obtain ⟨hc0, hf0⟩ := bcell hb0; have hz0 : w.heap.size + 1 < w0.heap.size := by have := hb0.size; (try simp only [al_size] at this); omega
  go_wp2
  go_ret
  exact ⟨rfl, by with_reducible repeat (first | refine bel_set ?_ (by omega) _ | refine bA ?_ _ | refine below_drew ?_ | refine bC ?_ hb0 | exact Below.refl _ _)⟩
set_option maxRecDepth 100000 in
theorem eqVehS (A A' : Option Addr) (c c' : Nat) (xs : List Veh) (hr : kVeh.C w A xs.length xs) (hr' : kVeh.C w A' xs.length xs) (hm : xs.length ≤ 1048576) : Calls Tryz.prog 37 #[.slice A xs.length c, .slice A' xs.length c'] w fun e w' => e = .returned (.bool true) ∧ Below w.heap.size w w' := by
  have HR := sA hr; have HR' := sA hr'; clear hr hr'
  go_enter Tryz.func37, Tryz.ntmps37
  go_wp2_with fail
  go_loopg [5] (xs.length + 1) (fun q v wr => ∃ k, q = xs.length + 1 - k ∧ k ≤ xs.length ∧ v = .int .i64 k ∧ Aside0 (Below w.heap.size w wr))
  case atStart => exact ⟨0, by omega, by omega, rfl, ⟨Below.refl _ _⟩⟩
  case round =>
    obtain ⟨k, rfl, hk, rfl, HB⟩ := hrel
    by_cases hlt : k < xs.length
    · obtain ⟨ad, e0, h0, h1⟩ := Kd.flat_cells (d := kVeh) rfl (Kd.C_below HR.out HB.out) zV k hlt
      obtain ⟨ad', e0', g0, g1⟩ := Kd.flat_cells (d := kVeh) rfl (Kd.C_below HR'.out HB.out) zV k hlt
      cases e0; cases e0'
      generalize xs.getD k zV = x at h0 h1 g0 g1
      have c0 := h0 _ rfl; have c1 := h1 0 _ rfl; have c2 := h1 1 _ rfl; have c3 := h1 2 _ rfl; have c4 := h1 3 _ rfl; have c5 := h1 4 _ rfl; have c6 := h1 5 _ rfl
      have d0 := g0 _ rfl; have d1 := g1 0 _ rfl; have d2 := g1 1 _ rfl; have d3 := g1 2 _ rfl; have d4 := g1 3 _ rfl; have d5 := g1 4 _ rfl; have d6 := g1 5 _ rfl
      clear h0 h1 g0 g1
      go_wp2_with fail
      go_still_tail 8, (by kernel_rfl)
      go_wp2_with (go_at_call 71; refine (eqVeh _ x).mono ?_; rintro e w2 ⟨rfl, hb⟩; have HB1 := sA (bC (below_drew HB.out) hb); clear hb)
      go_roundg (xs.length + 1 - (k + 1))
      case measure => omega
      case rel => exact ⟨k + 1, rfl, hlt, by go_num, HB1⟩
    · go_wp2
      go_ret
      exact ⟨rfl, HB.out⟩
theorem szVehS (A : Option Addr) (n c : Nat) (left : Int) (h0 : 0 ≤ left) (h1 : left ≤ 1048576) (hn : n ≤ 9223372036854775807) : Calls Tryz.prog 22 #[.slice A n c, .int .i64 left] w fun e w' => e = .returned (.int .i64 (if left < n then -1 else left - n)) ∧ w = w' := by
  go_enter Tryz.func22, Tryz.ntmps22
  go_wp2
  all_goals (go_ret; exact ⟨by first | rfl | (rw [if_pos (by omega)]; rfl) | (rw [if_neg (by omega)]; rfl), rfl⟩)
set_option maxHeartbeats 1000000 in
theorem toReq (v : Req) : Calls Tryz.prog 63 #[.agg #[.int .i64 v.size, .int .i64 v.tags, .int .i64 v.from_.x, .int .i64 v.from_.y, .int .i64 v.from_.o, .int .i64 v.from_.c, .int .i64 v.from_.h, .int .i64 v.to_.x, .int .i64 v.to_.y, .int .i64 v.to_.o, .int .i64 v.to_.c, .int .i64 v.to_.h]] w fun e w' => e = .returned (.agg #[.int .i64 v.size, .int .i64 v.tags, .int .i64 v.from_.x, .int .i64 v.from_.y, .int .i64 v.from_.o, .int .i64 v.from_.c, .int .i64 v.from_.h, .int .i64 v.to_.x, .int .i64 v.to_.y, .int .i64 v.to_.o, .int .i64 v.to_.c, .int .i64 v.to_.h]) ∧ Below w.heap.size w w' := by
  go_enter Tryz.func63, Tryz.ntmps63
  go_wp2_with fail
  refine (toPlace _ v.from_).mono ?_; rintro e w0 ⟨rfl, hb0⟩
  have A := bB ((al_old (by simp only [al_size]; omega)).trans ((al_old (by simp only [al_size]; omega)).trans (al_new w _))) hb0
  have B := bB ((al_old (by simp only [al_size]; omega)).trans (al_new _ _)) hb0
  have D := bB (al_new _ _) hb0
  have hz := hb0.size
  simp only [al_size] at B D hz
  obtain ⟨a1, a2⟩ := lay0 A
  obtain ⟨d1, d2⟩ := lay0 D
  have HB0 := sA hb0; have HA := sA A; have HB := sA B; have HD := sA D; clear hb0 A B D
  go_wp2_with fail
  clear a1 a2 d1 d2
  refine (toPlace _ v.to_).mono ?_; rintro e w1 ⟨rfl, hb1⟩
  have A := bB (blk_far (blk_far (blk_far (blk_far (blk_far HA.out (by simp <;> omega) _) (by simp <;> omega) _) (by simp <;> omega) _) (by simp <;> omega) _) (by simp <;> omega) _) hb1
  have B := bB (blk_far (blk_far (blk_far (blk_far (blk_far HB.out (by simp <;> omega) _) (by simp <;> omega) _) (by simp <;> omega) _) (by simp <;> omega) _) (by simp <;> omega) _) hb1
  have D := bB (blk_set (blk_set (blk_set (blk_set (blk_set HD.out _ _) _ _) _ _) _ _) _ _) hb1
  simp only [List.setIfInBounds_toArray, List.set_cons_zero, List.set_cons_succ] at D
  obtain ⟨a1, a2⟩ := lay0 A
  obtain ⟨b1, b2⟩ := lay0 B
  obtain ⟨d1, d2⟩ := lay0 D
  have HB1 := sA (bC (bel_set (bel_set (bel_set (bel_set (bel_set (bC (bA (bA (bA (Below.refl _ _) _) _) _) HB0.out) (by omega) _) (by omega) _) (by omega) _) (by omega) _) (by omega) _) hb1); clear hb1 A B D
  go_wp2
  refine bodyPost_ret (v := .agg #[.int .i64 v.size, .int .i64 v.tags, .int .i64 v.from_.x, .int .i64 v.from_.y, .int .i64 v.from_.o, .int .i64 v.from_.c, .int .i64 v.from_.h, .int .i64 v.to_.x, .int .i64 v.to_.y, .int .i64 v.to_.o, .int .i64 v.to_.c, .int .i64 v.to_.h]) (by simp [results, Tryz.results63, go_sem, a1, a2, b1, b2, d1, d2]) rfl ⟨rfl, ?_⟩
  with_reducible repeat (first | refine bel_set ?_ (by omega) _ | exact HB1.out)
set_option maxRecDepth 100000 in
theorem toReqS (A : Option Addr) (c : Nat) (xs : List Req) (hr : kReq.C w A xs.length xs) (hm : xs.length ≤ 1048576) : Calls Tryz.prog 32 #[.slice A xs.length c] w fun e w' => ∃ v, e = .returned v ∧ kReq.R 109 w' w.heap.size (fun _ => True) v xs ∧ Below w.heap.size w w' := by
  have HR := sA hr; clear hr
  go_enter Tryz.func32, Tryz.ntmps32
  go_wp2_with (refine Kd.flat_make kReq rfl 7 rfl rfl 44 _ _ rfl xs.length rfl rfl 109 Tryz.underlying44 zQ 96 (by kernel_rfl) (by decide) (by decide) (by omega) (Below.refl _ _) ?_; intro v1 w1 hr1 hb1 _)
  have HR1 := sA hr1; have HB1 := sA hb1; clear hr1 hb1
  go_loopg [4] (xs.length + 1) (fun q v4 wr => ∃ k ys, q = xs.length + 1 - k ∧ k ≤ xs.length ∧ v4 = .int .i64 k ∧ Aside0 (Filled xs k ys) ∧ Aside0 (kReq.R 109 wr w.heap.size (fun _ => True) v1 ys) ∧ Aside0 (Below w.heap.size w wr))
  case atStart => exact ⟨0, _, by omega, by omega, rfl, ⟨Filled.zero xs zQ⟩, HR1, HB1⟩
  case round =>
    obtain ⟨k, ys, rfl, hk, rfl, HF, HO, HB⟩ := hrel
    clear HR1 HB1
    by_cases hlt : k < xs.length
    · have hf := HF.out.step hlt zQ
      obtain ⟨ad, e0, h0, h1⟩ := Kd.flat_cells (d := kReq) rfl (Kd.C_below HR.out HB.out) zQ k hlt
      cases e0
      generalize xs.getD k zQ = x at hf h0 h1
      have HF1 := sA hf; clear hf
      have c0 := h0 _ rfl; have c1 := h1 0 _ rfl; have c2 := h1 1 _ rfl; have c3 := h1 2 _ rfl; have c4 := h1 3 _ rfl; have c5 := h1 4 _ rfl; have c6 := h1 5 _ rfl; have c7 := h1 6 _ rfl; have c8 := h1 7 _ rfl; have c9 := h1 8 _ rfl; have c10 := h1 9 _ rfl; have c11 := h1 10 _ rfl
      clear h0 h1
      obtain ⟨g, cap, rfl, hg, _, _⟩ := Kd.R_form HO.out (by rw [HF.out.1]; omega)
      have hky : k < ys.length := by rw [HF.out.1]; exact hlt
      go_wp2_with (first | (go_at_call 63; refine (toReq _ x).mono ?_; rintro e w2 ⟨rfl, hb⟩) | ((with_reducible refine gate_store (t := 109) (p := 21) rfl ?_); refine Kd.flat_store kReq rfl rfl rfl 109 _ _ rfl k x rfl rfl rfl (by kernel_rfl) (Kd.R_below HO.out hb) hky (bC HB.out hb) ?_; intro w3 hr3 hb3 _; have HO1 := sA hr3; have HB1 := sA hb3; clear hr3 hb3 hb))
      go_roundg (xs.length + 1 - (k + 1))
      case measure => omega
      case rel => exact ⟨k + 1, _, rfl, hlt, by go_num, HF1, HO1, HB1⟩
    · go_wp2
      go_ret
      exact ⟨_, rfl, by rw [← HF.out.done (by omega)]; exact HO.out, HB.out⟩
set_option maxHeartbeats 1000000 in
theorem eqReq (v : Req) : Calls Tryz.prog 72 #[.agg #[.int .i64 v.size, .int .i64 v.tags, .int .i64 v.from_.x, .int .i64 v.from_.y, .int .i64 v.from_.o, .int .i64 v.from_.c, .int .i64 v.from_.h, .int .i64 v.to_.x, .int .i64 v.to_.y, .int .i64 v.to_.o, .int .i64 v.to_.c, .int .i64 v.to_.h], .agg #[.int .i64 v.size, .int .i64 v.tags, .int .i64 v.from_.x, .int .i64 v.from_.y, .int .i64 v.from_.o, .int .i64 v.from_.c, .int .i64 v.from_.h, .int .i64 v.to_.x, .int .i64 v.to_.y, .int .i64 v.to_.o, .int .i64 v.to_.c, .int .i64 v.to_.h]] w fun e w' => e = .returned (.bool true) ∧ Below w.heap.size w w' := by
  go_enter Tryz.func72, Tryz.ntmps72
  go_wp2_with fail
  refine (eqPlace _ v.from_).mono ?_; rintro e w0 ⟨rfl, hb0⟩; obtain ⟨hc0, hf0⟩ := bcell hb0; have hz0 : w.heap.size + 1 < w0.heap.size := by have := hb0.size; (try simp only [al_size] at this); omega
  go_wp2_with fail
  refine (eqPlace _ v.to_).mono ?_; rintro e w1 ⟨rfl, hb1⟩; obtain ⟨hc1, hf1⟩ := bcell hb1; have hz1 : w.heap.size + 1 < w1.heap.size := by have := hb1.size; (try simp only [al_size] at this); omega
  go_wp2
  go_ret
  exact ⟨rfl, by with_reducible repeat (first | refine bel_set ?_ (by omega) _ | refine bA ?_ _ | refine below_drew ?_ | refine bC ?_ hb0 | refine bC ?_ hb1 | exact Below.refl _ _)⟩
set_option maxRecDepth 100000 in
theorem eqReqS (A A' : Option Addr) (c c' : Nat) (xs : List Req) (hr : kReq.C w A xs.length xs) (hr' : kReq.C w A' xs.length xs) (hm : xs.length ≤ 1048576) : Calls Tryz.prog 38 #[.slice A xs.length c, .slice A' xs.length c'] w fun e w' => e = .returned (.bool true) ∧ Below w.heap.size w w' := by
  have HR := sA hr; have HR' := sA hr'; clear hr hr'
  go_enter Tryz.func38, Tryz.ntmps38
  go_wp2_with fail
  go_loopg [5] (xs.length + 1) (fun q v wr => ∃ k, q = xs.length + 1 - k ∧ k ≤ xs.length ∧ v = .int .i64 k ∧ Aside0 (Below w.heap.size w wr))
  case atStart => exact ⟨0, by omega, by omega, rfl, ⟨Below.refl _ _⟩⟩
  case round =>
    obtain ⟨k, rfl, hk, rfl, HB⟩ := hrel
    by_cases hlt : k < xs.length
    · obtain ⟨ad, e0, h0, h1⟩ := Kd.flat_cells (d := kReq) rfl (Kd.C_below HR.out HB.out) zQ k hlt
      obtain ⟨ad', e0', g0, g1⟩ := Kd.flat_cells (d := kReq) rfl (Kd.C_below HR'.out HB.out) zQ k hlt
      cases e0; cases e0'
      generalize xs.getD k zQ = x at h0 h1 g0 g1
      have c0 := h0 _ rfl; have c1 := h1 0 _ rfl; have c2 := h1 1 _ rfl; have c3 := h1 2 _ rfl; have c4 := h1 3 _ rfl; have c5 := h1 4 _ rfl; have c6 := h1 5 _ rfl; have c7 := h1 6 _ rfl; have c8 := h1 7 _ rfl; have c9 := h1 8 _ rfl; have c10 := h1 9 _ rfl; have c11 := h1 10 _ rfl
      have d0 := g0 _ rfl; have d1 := g1 0 _ rfl; have d2 := g1 1 _ rfl; have d3 := g1 2 _ rfl; have d4 := g1 3 _ rfl; have d5 := g1 4 _ rfl; have d6 := g1 5 _ rfl; have d7 := g1 6 _ rfl; have d8 := g1 7 _ rfl; have d9 := g1 8 _ rfl; have d10 := g1 9 _ rfl; have d11 := g1 10 _ rfl
      clear h0 h1 g0 g1
      go_wp2_with fail
      go_still_tail 8, (by kernel_rfl)
      go_wp2_with (go_at_call 72; refine (eqReq _ x).mono ?_; rintro e w2 ⟨rfl, hb⟩; have HB1 := sA (bC (below_drew HB.out) hb); clear hb)
      go_roundg (xs.length + 1 - (k + 1))
      case measure => omega
      case rel => exact ⟨k + 1, rfl, hlt, by go_num, HB1⟩
    · go_wp2
      go_ret
      exact ⟨rfl, HB.out⟩
theorem szReqS (A : Option Addr) (n c : Nat) (left : Int) (h0 : 0 ≤ left) (h1 : left ≤ 1048576) (hn : n ≤ 9223372036854775807) : Calls Tryz.prog 23 #[.slice A n c, .int .i64 left] w fun e w' => e = .returned (.int .i64 (if left < n then -1 else left - n)) ∧ w = w' := by
  go_enter Tryz.func23, Tryz.ntmps23
  go_wp2
  all_goals (go_ret; exact ⟨by first | rfl | (rw [if_pos (by omega)]; rfl) | (rw [if_neg (by omega)]; rfl), rfl⟩)
set_option maxHeartbeats 1000000 in
theorem toRoad (v : Road) : Calls Tryz.prog 64 #[.agg #[.int .i64 v.a, .int .i64 v.b, .int .i64 v.t]] w fun e w' => e = .returned (.agg #[.int .i64 v.a, .int .i64 v.b, .int .i64 v.t]) ∧ Below w.heap.size w w' := by
  go_enter Tryz.func64, Tryz.ntmps64
  go_wp2
  refine bodyPost_ret (v := .agg #[.int .i64 v.a, .int .i64 v.b, .int .i64 v.t]) (by simp [results, Tryz.results64, go_sem]) rfl ⟨rfl, ?_⟩
  exact by with_reducible repeat (first | refine bel_set ?_ (by omega) _ | refine bA ?_ _ | refine below_drew ?_ | exact Below.refl _ _)
set_option maxRecDepth 100000 in
theorem toRoadS (A : Option Addr) (c : Nat) (xs : List Road) (hr : kRoad.C w A xs.length xs) (hm : xs.length ≤ 1048576) : Calls Tryz.prog 33 #[.slice A xs.length c] w fun e w' => ∃ v, e = .returned v ∧ kRoad.R 114 w' w.heap.size (fun _ => True) v xs ∧ Below w.heap.size w w' := by
  have HR := sA hr; clear hr
  go_enter Tryz.func33, Tryz.ntmps33
  go_wp2_with (refine Kd.flat_make kRoad rfl 7 rfl rfl 45 _ _ rfl xs.length rfl rfl 114 Tryz.underlying45 zR 24 (by kernel_rfl) (by decide) (by decide) (by omega) (Below.refl _ _) ?_; intro v1 w1 hr1 hb1 _)
  have HR1 := sA hr1; have HB1 := sA hb1; clear hr1 hb1
  go_loopg [4] (xs.length + 1) (fun q v4 wr => ∃ k ys, q = xs.length + 1 - k ∧ k ≤ xs.length ∧ v4 = .int .i64 k ∧ Aside0 (Filled xs k ys) ∧ Aside0 (kRoad.R 114 wr w.heap.size (fun _ => True) v1 ys) ∧ Aside0 (Below w.heap.size w wr))
  case atStart => exact ⟨0, _, by omega, by omega, rfl, ⟨Filled.zero xs zR⟩, HR1, HB1⟩
  case round =>
    obtain ⟨k, ys, rfl, hk, rfl, HF, HO, HB⟩ := hrel
    clear HR1 HB1
    by_cases hlt : k < xs.length
    · have hf := HF.out.step hlt zR
      obtain ⟨ad, e0, h0, h1⟩ := Kd.flat_cells (d := kRoad) rfl (Kd.C_below HR.out HB.out) zR k hlt
      cases e0
      generalize xs.getD k zR = x at hf h0 h1
      have HF1 := sA hf; clear hf
      have c0 := h0 _ rfl; have c1 := h1 0 _ rfl; have c2 := h1 1 _ rfl
      clear h0 h1
      obtain ⟨g, cap, rfl, hg, _, _⟩ := Kd.R_form HO.out (by rw [HF.out.1]; omega)
      have hky : k < ys.length := by rw [HF.out.1]; exact hlt
      go_wp2_with (first | (go_at_call 64; refine (toRoad _ x).mono ?_; rintro e w2 ⟨rfl, hb⟩) | ((with_reducible refine gate_store (t := 114) (p := 21) rfl ?_); refine Kd.flat_store kRoad rfl rfl rfl 114 _ _ rfl k x rfl rfl rfl (by kernel_rfl) (Kd.R_below HO.out hb) hky (bC HB.out hb) ?_; intro w3 hr3 hb3 _; have HO1 := sA hr3; have HB1 := sA hb3; clear hr3 hb3 hb))
      go_roundg (xs.length + 1 - (k + 1))
      case measure => omega
      case rel => exact ⟨k + 1, _, rfl, hlt, by go_num, HF1, HO1, HB1⟩
    · go_wp2
      go_ret
      exact ⟨_, rfl, by rw [← HF.out.done (by omega)]; exact HO.out, HB.out⟩
set_option maxHeartbeats 1000000 in
theorem eqRoad (v : Road) : Calls Tryz.prog 73 #[.agg #[.int .i64 v.a, .int .i64 v.b, .int .i64 v.t], .agg #[.int .i64 v.a, .int .i64 v.b, .int .i64 v.t]] w fun e w' => e = .returned (.bool true) ∧ Below w.heap.size w w' := by
  go_enter Tryz.func73, Tryz.ntmps73
  go_wp2
  go_ret
  exact ⟨rfl, by with_reducible repeat (first | refine bel_set ?_ (by omega) _ | refine bA ?_ _ | refine below_drew ?_ | exact Below.refl _ _)⟩
set_option maxRecDepth 100000 in
theorem eqRoadS (A A' : Option Addr) (c c' : Nat) (xs : List Road) (hr : kRoad.C w A xs.length xs) (hr' : kRoad.C w A' xs.length xs) (hm : xs.length ≤ 1048576) : Calls Tryz.prog 39 #[.slice A xs.length c, .slice A' xs.length c'] w fun e w' => e = .returned (.bool true) ∧ Below w.heap.size w w' := by
  have HR := sA hr; have HR' := sA hr'; clear hr hr'
  go_enter Tryz.func39, Tryz.ntmps39
  go_wp2_with fail
  go_loopg [5] (xs.length + 1) (fun q v wr => ∃ k, q = xs.length + 1 - k ∧ k ≤ xs.length ∧ v = .int .i64 k ∧ Aside0 (Below w.heap.size w wr))
  case atStart => exact ⟨0, by omega, by omega, rfl, ⟨Below.refl _ _⟩⟩
  case round =>
    obtain ⟨k, rfl, hk, rfl, HB⟩ := hrel
    by_cases hlt : k < xs.length
    · obtain ⟨ad, e0, h0, h1⟩ := Kd.flat_cells (d := kRoad) rfl (Kd.C_below HR.out HB.out) zR k hlt
      obtain ⟨ad', e0', g0, g1⟩ := Kd.flat_cells (d := kRoad) rfl (Kd.C_below HR'.out HB.out) zR k hlt
      cases e0; cases e0'
      generalize xs.getD k zR = x at h0 h1 g0 g1
      have c0 := h0 _ rfl; have c1 := h1 0 _ rfl; have c2 := h1 1 _ rfl
      have d0 := g0 _ rfl; have d1 := g1 0 _ rfl; have d2 := g1 1 _ rfl
      clear h0 h1 g0 g1
      go_wp2_with fail
      go_still_tail 8, (by kernel_rfl)
      go_wp2_with (go_at_call 73; refine (eqRoad _ x).mono ?_; rintro e w2 ⟨rfl, hb⟩; have HB1 := sA (bC (below_drew HB.out) hb); clear hb)
      go_roundg (xs.length + 1 - (k + 1))
      case measure => omega
      case rel => exact ⟨k + 1, rfl, hlt, by go_num, HB1⟩
    · go_wp2
      go_ret
      exact ⟨rfl, HB.out⟩
theorem szRoadS (A : Option Addr) (n c : Nat) (left : Int) (h0 : 0 ≤ left) (h1 : left ≤ 1048576) (hn : n ≤ 9223372036854775807) : Calls Tryz.prog 24 #[.slice A n c, .int .i64 left] w fun e w' => e = .returned (.int .i64 (if left < n then -1 else left - n)) ∧ w = w' := by
  go_enter Tryz.func24, Tryz.ntmps24
  go_wp2
  all_goals (go_ret; exact ⟨by first | rfl | (rw [if_pos (by omega)]; rfl) | (rw [if_neg (by omega)]; rfl), rfl⟩)
end
end Go.Proofs.YtlhpbpkefkabgaaGreat.L1
namespace Go.Proofs.YtlhpbpkefkabgaaGreat.L1
open Go.RowKit Go.Proofs.YtlhpbpkefkabgaaGreatW.PrintWords Go.Proofs.YtlhpbpkefkabgaaGreat.B
set_option linter.unusedVariables false
set_option linter.unusedSimpArgs false

structure Inst where (vs : List Veh) (qs : List Req) (rs : List Road)
/-- An instance that is read. -/
def ReadInst (w : World) (v : Value) (x : Inst) : Prop := ∃ A0 c0 A1 c1 A2 c2, v = .agg #[.slice A0 x.vs.length c0, .slice A1 x.qs.length c1, .slice A2 x.rs.length c2] ∧
  kVeh.C w A0 x.vs.length x.vs ∧ kReq.C w A1 x.qs.length x.qs ∧ kRoad.C w A2 x.rs.length x.rs
/-- An instance of the call's own: three rows, each elsewhere. -/
def OwnInst (w : World) (base : Nat) (v : Value) (x : Inst) : Prop := ∃ v0 v1 v2 s1 s2, v = .agg #[v0, v1, v2] ∧ kVeh.R 71 w base (fun b => b < s1) v0 x.vs ∧ kReq.R 109 w base (fun b => s1 ≤ b ∧ b < s2) v1 x.qs ∧ kRoad.R 114 w base (fun b => s2 ≤ b) v2 x.rs
theorem ReadInst.below {w w1 : World} {v : Value} {x : Inst} (h : ReadInst w v x) (hb : Below w.heap.size w w1) : ReadInst w1 v x := by
  obtain ⟨A0, c0, A1, c1, A2, c2, rfl, h0, h1, h2⟩ := h
  exact ⟨A0, c0, A1, c1, A2, c2, rfl, Kd.C_below h0 hb, Kd.C_below h1 hb, Kd.C_below h2 hb⟩
theorem OwnInst.read {w : World} {base : Nat} {v : Value} {x : Inst} (h : OwnInst w base v x) : ReadInst w v x := by
  obtain ⟨v0, v1, v2, s1, s2, rfl, h0, h1, h2⟩ := h
  obtain ⟨A0, c0, rfl, _, r0⟩ := Kd.R_reads h0
  obtain ⟨A1, c1, rfl, _, r1⟩ := Kd.R_reads h1
  obtain ⟨A2, c2, rfl, _, r2⟩ := Kd.R_reads h2
  exact ⟨A0, c0, A1, c1, A2, c2, rfl, r0, r1, r2⟩
theorem OwnInst.below {w w1 : World} {base : Nat} {v : Value} {x : Inst} (h : OwnInst w base v x) (hb : Below w.heap.size w w1) : OwnInst w1 base v x := by
  obtain ⟨v0, v1, v2, s1, s2, rfl, h0, h1, h2⟩ := h
  exact ⟨v0, v1, v2, s1, s2, rfl, Kd.R_below h0 hb, Kd.R_below h1 hb, Kd.R_below h2 hb⟩
/-- Few enough for every count. -/
def Inst.small (x : Inst) : Prop := x.vs.length ≤ 1048576 ∧ x.qs.length ≤ 1048576 ∧ x.rs.length ≤ 1048576
section
variable (w : World)
set_option maxRecDepth 100000 in
set_option maxHeartbeats 1000000 in
theorem toInst (v : Value) (x : Inst) (hr : ReadInst w v x) (hs : x.small) : Calls Tryz.prog 10 #[v] w fun e w' => ∃ u, e = .returned u ∧ OwnInst w' w.heap.size u x ∧ Below w.heap.size w w' := by
  obtain ⟨A0, c0, A1, c1, A2, c2, rfl, r0, r1, r2⟩ := hr
  obtain ⟨n0, n1, n2⟩ := hs
  have R0 := sA r0; have R1 := sA r1; have R2 := sA r2; clear r0 r1 r2
  go_enter Tryz.func10, Tryz.ntmps10
  go_wp2_with fail
  have HB := sA (bA (bA (bA (Below.refl w.heap.size w) (.cells #[.slice A0 x.vs.length c0, .slice A1 x.qs.length c1, .slice A2 x.rs.length c2] 29)) (.cells #[.slice none 0 0, .slice none 0 0, .slice none 0 0] 47)) (.cells #[.slice none 0 0, .slice none 0 0, .slice none 0 0] 47))
  refine (toVehS _ A0 c0 x.vs (Kd.C_below R0.out HB.out) n0).mono ?_
  rintro e w0 ⟨v0, rfl, hr0, hb0⟩
  have A := bB ((al_old (by simp only [al_size]; omega)).trans ((al_old (by simp only [al_size]; omega)).trans (al_new w _))) hb0
  have B := bB ((al_old (by simp only [al_size]; omega)).trans (al_new _ _)) hb0
  have D := bB (al_new _ _) hb0
  have hz0 := hb0.size
  have hr0' := Kd.fresh (base := w.heap.size) hr0 (by simp only [al_size]; omega)
  simp only [al_size] at B D hz0 hr0'
  obtain ⟨a1, a2⟩ := lay0 A
  obtain ⟨d1, d2⟩ := lay0 D
  have HB0 := sA (bel_set (b := w.heap.size + 1 + 1) (o := 0) (bC HB.out hb0) (by omega))
  obtain ⟨B0, d0, rfl, _, _⟩ := Kd.R_reads hr0'
  have HR0 := sA (Kd.R_far (p := ⟨w.heap.size + 1 + 1, 0, none⟩) hr0' (fun k hk => by have := hk.1; simp only; omega) (.slice B0 x.vs.length d0))
  have HA := sA (blk_far (p := ⟨w.heap.size + 1 + 1, 0, none⟩) A (by simp only; omega) (.slice B0 x.vs.length d0)); have HC := sA (blk_far (p := ⟨w.heap.size + 1 + 1, 0, none⟩) B (by simp only; omega) (.slice B0 x.vs.length d0)); have HD := sA (blk_set D 0 (.slice B0 x.vs.length d0)); clear hb0 hr0 hr0' A B D HB
  go_wp2_with fail
  clear a1 a2 d1 d2
  refine (toReqS _ A1 c1 x.qs (Kd.C_below R1.out (HB0.out _)) n1).mono ?_
  rintro e w1 ⟨v1, rfl, hr1, hb1⟩
  have A := bB HA.out hb1; have B := bB HC.out hb1; have D := bB HD.out hb1
  have hz1 := hb1.size
  have hr1' := Kd.fresh (base := w.heap.size) hr1 (by simp; omega)
  have hr0' := Kd.R_below HR0.out hb1
  simp only [World.size_setCell, List.setIfInBounds_toArray, List.set_cons_zero, List.set_cons_succ] at D hz1 hr1'
  obtain ⟨a1, a2⟩ := lay0 A
  obtain ⟨d1, d2⟩ := lay0 D
  have HB1 := sA (bel_set (b := w.heap.size + 1 + 1) (o := 1) (bC (HB0.out _) hb1) (by omega))
  obtain ⟨B1, d1', rfl, _, _⟩ := Kd.R_reads hr1'
  have HS0 := sA (Kd.R_far (p := ⟨w.heap.size + 1 + 1, 1, none⟩) hr0' (fun k hk => by have := hk.1; simp only; omega) (.slice B1 x.qs.length d1'))
  have HS1 := sA (Kd.R_far (p := ⟨w.heap.size + 1 + 1, 1, none⟩) hr1' (fun k hk => by have := hk.1; simp only; omega) (.slice B1 x.qs.length d1'))
  have HA1 := sA (blk_far (p := ⟨w.heap.size + 1 + 1, 1, none⟩) A (by simp only; omega) (.slice B1 x.qs.length d1')); have HC1 := sA (blk_far (p := ⟨w.heap.size + 1 + 1, 1, none⟩) B (by simp only; omega) (.slice B1 x.qs.length d1')); have HD1 := sA (blk_set D 1 (.slice B1 x.qs.length d1')); clear hb1 hr1 hr1' hr0' A B D HB0 HA HC HD HR0
  go_wp2_with fail
  clear a1 a2 d1 d2
  refine (toRoadS _ A2 c2 x.rs (Kd.C_below R2.out (HB1.out _)) n2).mono ?_
  rintro e w2 ⟨v2, rfl, hr2, hb2⟩
  have B := bB HC1.out hb2; have D := bB HD1.out hb2
  have hz2 := hb2.size
  have hr2' := Kd.fresh (base := w.heap.size) hr2 (by simp; omega)
  simp only [World.size_setCell, List.setIfInBounds_toArray, List.set_cons_zero, List.set_cons_succ] at D hz2 hr2'
  obtain ⟨b1, b2⟩ := lay0 B
  obtain ⟨d1, d2⟩ := lay0 D
  obtain ⟨B2, d2', rfl, _, _⟩ := Kd.R_reads hr2'
  have HB2 := sA (bC (HB1.out _) hb2)
  have HT0 := sA (Kd.R_below HS0.out hb2); have HT1 := sA (Kd.R_below HS1.out hb2); have HT2 := sA hr2'
  clear hb2 hr2 hr2' B D HA1 HC1 HD1 HB1 HS0 HS1
  go_wp2
  refine bodyPost_ret (v := .agg #[.slice B0 x.vs.length d0, .slice B1 x.qs.length d1', .slice B2 x.rs.length d2']) (by simp [results, Tryz.results10, go_sem, b1, b2, d1, d2]) rfl ⟨_, rfl, ⟨_, _, _, w0.heap.size, w1.heap.size, rfl, ?_, ?_, ?_⟩, ?_⟩
  · refine Kd.R_mono (ok := fun k => w.heap.size + 1 + 1 + 1 ≤ k ∧ k < w0.heap.size) ?_ (fun k hk => hk.2)
    repeat (first | exact HT0.out | refine Kd.R_far ?_ (fun k hk => by have := hk.1; simp only; omega) _)
  · refine Kd.R_mono (ok := fun k => w0.heap.size ≤ k ∧ k < w1.heap.size) ?_ (fun k hk => hk)
    repeat (first | exact HT1.out | refine Kd.R_far ?_ (fun k hk => by have := hk.1; simp only; omega) _)
  · refine Kd.R_mono (ok := fun k => w1.heap.size ≤ k ∧ k < w2.heap.size) ?_ (fun k hk => hk.1)
    repeat (first | exact HT2.out | refine Kd.R_far ?_ (fun k hk => by have := hk.1; simp only; omega) _)
  · with_reducible repeat (first | exact HB2.out | refine bel_set ?_ (by omega) _)
end
end Go.Proofs.YtlhpbpkefkabgaaGreat.L1
namespace Go.Proofs.YtlhpbpkefkabgaaGreat.L1
open Go.RowKit Go.Proofs.YtlhpbpkefkabgaaGreatW.PrintWords Go.Proofs.YtlhpbpkefkabgaaGreat.B
set_option linter.unusedVariables false
set_option linter.unusedSimpArgs false

def roadAt (n : Int) (rs : List Road) (k : Nat) : Bool := (rs.getD k zR).good n && (decide (k = 0) || (rs.getD (k - 1) zR).lt (rs.getD k zR))
def Inst.nodes (x : Inst) : Int := x.vs.length + 2 * x.qs.length
def Inst.few (x : Inst) : Bool := decide (x.vs.length ≤ 64) && decide (x.qs.length ≤ 1000) && decide (x.rs.length ≤ 4000)
def Inst.valid (x : Inst) : Bool := x.few && allI x.vs.length (fun k => (x.vs.getD k zV).good) && allI x.qs.length (fun k => (x.qs.getD k zQ).good) && allI x.rs.length (roadAt x.nodes x.rs)

section
variable (w : World)
set_option maxHeartbeats 1000000 in
theorem eqInst (v v' : Value) (x : Inst) (hr : ReadInst w v x) (hr' : ReadInst w v' x) (hs : x.small) : Calls Tryz.prog 15 #[v, v'] w fun e w' => e = .returned (.bool true) ∧ Below w.heap.size w w' := by
  obtain ⟨A0, c0, A1, c1, A2, c2, rfl, r0, r1, r2⟩ := hr
  obtain ⟨B0, d0, B1, d1, B2, d2, rfl, s0, s1, s2⟩ := hr'
  obtain ⟨n0, n1, n2⟩ := hs
  have HR := sA (And.intro r0 (And.intro r1 (And.intro r2 (And.intro s0 (And.intro s1 s2))))); clear r0 r1 r2 s0 s1 s2
  go_enter Tryz.func15, Tryz.ntmps15
  go_wp2_with fail
  have HB := sA (bA (bA (Below.refl w.heap.size w) (.cells #[.slice A0 x.vs.length c0, .slice A1 x.qs.length c1, .slice A2 x.rs.length c2] 47)) (.cells #[.slice B0 x.vs.length d0, .slice B1 x.qs.length d1, .slice B2 x.rs.length d2] 47))
  refine (eqVehS _ A0 B0 c0 d0 x.vs (Kd.C_below HR.out.1 HB.out) (Kd.C_below HR.out.2.2.2.1 HB.out) n0).mono ?_
  rintro e w0 ⟨rfl, hb⟩
  have A := bB ((al_old (by simp only [al_size]; omega)).trans (al_new w _)) hb
  have B := bB (al_new _ _) hb
  simp only [al_size] at B
  obtain ⟨a1, a2⟩ := lay0 A; obtain ⟨b1, b2⟩ := lay0 B
  have HA := sA A; have HB' := sA B; have HB0 := sA (bC HB.out hb); clear hb HB A B
  go_wp2_with fail
  clear a1 a2 b1 b2
  refine (eqReqS _ A1 B1 c1 d1 x.qs (Kd.C_below HR.out.2.1 HB0.out) (Kd.C_below HR.out.2.2.2.2.1 HB0.out) n1).mono ?_
  rintro e w1 ⟨rfl, hb⟩
  obtain ⟨a1, a2⟩ := lay hb HA.out; obtain ⟨b1, b2⟩ := lay hb HB'.out
  have HB1 := sA (bC HB0.out hb); clear hb HB0
  go_wp2_with fail
  clear a1 a2 b1 b2
  refine (eqRoadS _ A2 B2 c2 d2 x.rs (Kd.C_below HR.out.2.2.1 HB1.out) (Kd.C_below HR.out.2.2.2.2.2 HB1.out) n2).mono ?_
  rintro e w2 ⟨rfl, hb⟩
  have HB2 := sA (bC HB1.out hb); clear hb HB1
  go_wp2
  go_ret
  exact ⟨rfl, HB2.out⟩

theorem szInst (v : Value) (x : Inst) (left : Int) (h0 : 0 ≤ left) (h1 : left ≤ 1048576) (hr : ReadInst w v x) : Calls Tryz.prog 6 #[v, .int .i64 left] w fun e w' => (∃ r : Int, e = .returned (.int .i64 r) ∧ (r = -1 ∨ (0 ≤ r ∧ r ≤ left ∧ x.small))) ∧ Below w.heap.size w w' := by
  obtain ⟨A0, c0, A1, c1, A2, c2, rfl, r0, r1, r2⟩ := hr
  have m0 := r0.2.1; have m1 := r1.2.1; have m2 := r2.2.1
  clear r0 r1 r2
  generalize hn0 : x.vs.length = n0 at m0; generalize hn1 : x.qs.length = n1 at m1; generalize hn2 : x.rs.length = n2 at m2
  have H0 := Lib.hid hn0; have H1 := Lib.hid hn1; have H2 := Lib.hid hn2; clear hn0 hn1 hn2
  go_enter Tryz.func6, Tryz.ntmps6
  by_cases l0 : left < n0
  · go_wp2_with (first | (go_at_call 22; refine (szVehS _ A0 n0 c0 left h0 h1 m0).mono ?_; rw [if_pos (by omega)]; rintro e w1 ⟨rfl, rfl⟩))
    go_ret
    exact ⟨⟨-1, rfl, .inl rfl⟩, bA (Below.refl _ _) _⟩
  by_cases l1 : left - n0 < n1
  · go_wp2_with (first | (go_at_call 22; refine (szVehS _ A0 n0 c0 left h0 h1 m0).mono ?_; rw [if_neg (by omega)]; rintro e w1 ⟨rfl, rfl⟩) | (go_at_call 23; refine (szReqS _ A1 n1 c1 (left - n0) (by omega) (by omega) m1).mono ?_; rw [if_pos (by omega)]; rintro e w1 ⟨rfl, rfl⟩))
    go_ret
    exact ⟨⟨-1, rfl, .inl rfl⟩, bA (Below.refl _ _) _⟩
  by_cases l2 : left - n0 - n1 < n2
  · go_wp2_with (first | (go_at_call 22; refine (szVehS _ A0 n0 c0 left h0 h1 m0).mono ?_; rw [if_neg (by omega)]; rintro e w1 ⟨rfl, rfl⟩) | (go_at_call 23; refine (szReqS _ A1 n1 c1 (left - n0) (by omega) (by omega) m1).mono ?_; rw [if_neg (by omega)]; rintro e w1 ⟨rfl, rfl⟩) | (go_at_call 24; refine (szRoadS _ A2 n2 c2 (left - n0 - n1) (by omega) (by omega) m2).mono ?_; rw [if_pos (by omega)]; rintro e w1 ⟨rfl, rfl⟩))
    go_ret
    exact ⟨⟨-1, rfl, .inl rfl⟩, bA (Below.refl _ _) _⟩
  · go_wp2_with (first | (go_at_call 22; refine (szVehS _ A0 n0 c0 left h0 h1 m0).mono ?_; rw [if_neg (by omega)]; rintro e w1 ⟨rfl, rfl⟩) | (go_at_call 23; refine (szReqS _ A1 n1 c1 (left - n0) (by omega) (by omega) m1).mono ?_; rw [if_neg (by omega)]; rintro e w1 ⟨rfl, rfl⟩) | (go_at_call 24; refine (szRoadS _ A2 n2 c2 (left - n0 - n1) (by omega) (by omega) m2).mono ?_; rw [if_neg (by omega)]; rintro e w1 ⟨rfl, rfl⟩))
    go_ret
    refine ⟨⟨left - n0 - n1 - n2, rfl, .inr ⟨by omega, by omega, ?_⟩⟩, bA (Below.refl _ _) _⟩
    unfold Inst.small; rw [H0.out, H1.out, H2.out]; omega
end
end Go.Proofs.YtlhpbpkefkabgaaGreat.L1
