/- What the helpers of the laws answer over slices of vehicles, requests, roads: copies, comparisons, sizes. -/
import Derived.Test.YteefopaoodfapaaDoorL1a
namespace Go.Proofs.YteefopaoodfapaaDoor.L1
open Go.RowKit Go.Proofs.YteefopaoodfapaaDoorW.PrintWords Go.Proofs.YteefopaoodfapaaDoor.B
set_option linter.unusedVariables false
set_option linter.unusedSimpArgs false
section
variable (w : World)
theorem toPlace (v : Place) : Calls Tryd.prog 58 #[.agg #[.int .i64 v.x, .int .i64 v.y, .int .i64 v.o, .int .i64 v.c, .int .i64 v.h]] w fun e w' => e = .returned (.agg #[.int .i64 v.x, .int .i64 v.y, .int .i64 v.o, .int .i64 v.c, .int .i64 v.h]) ∧ Below w.heap.size w w' := by
  go_enter Tryd.func58, Tryd.ntmps58
  go_wp2
  refine bodyPost_ret (v := .agg #[.int .i64 v.x, .int .i64 v.y, .int .i64 v.o, .int .i64 v.c, .int .i64 v.h]) (by simp [results, Tryd.results58, go_sem]) rfl ⟨rfl, ?_⟩
  exact by with_reducible repeat (first | refine bel_set ?_ (by omega) _ | refine below_alloc ?_ _ | refine below_drew ?_ | exact Below.refl _ _)
theorem eqPlace (v : Place) : Calls Tryd.prog 66 #[.agg #[.int .i64 v.x, .int .i64 v.y, .int .i64 v.o, .int .i64 v.c, .int .i64 v.h], .agg #[.int .i64 v.x, .int .i64 v.y, .int .i64 v.o, .int .i64 v.c, .int .i64 v.h]] w fun e w' => e = .returned (.bool true) ∧ Below w.heap.size w w' := by
  go_enter Tryd.func66, Tryd.ntmps66
  go_wp2
  go_ret
  exact ⟨rfl, by with_reducible repeat (first | refine bel_set ?_ (by omega) _ | refine below_alloc ?_ _ | refine below_drew ?_ | exact Below.refl _ _)⟩
set_option maxHeartbeats 1000000 in
theorem toVeh (v : Veh) : Calls Tryd.prog 42 #[.agg #[.int .i64 v.room, .int .i64 v.skills, .int .i64 v.home.x, .int .i64 v.home.y, .int .i64 v.home.o, .int .i64 v.home.c, .int .i64 v.home.h]] w fun e w' => e = .returned (.agg #[.int .i64 v.room, .int .i64 v.skills, .int .i64 v.home.x, .int .i64 v.home.y, .int .i64 v.home.o, .int .i64 v.home.c, .int .i64 v.home.h]) ∧ Below w.heap.size w w' := by
  go_enter Tryd.func42, Tryd.ntmps42
  go_wp2_with (first | (go_at_call 58; refine (toPlace _ v.home).mono ?_; rintro e w0 ⟨rfl, hb0⟩; obtain ⟨hc0, hf0⟩ := bcell hb0))
  refine bodyPost_ret (v := .agg #[.int .i64 v.room, .int .i64 v.skills, .int .i64 v.home.x, .int .i64 v.home.y, .int .i64 v.home.o, .int .i64 v.home.c, .int .i64 v.home.h]) (by simp [results, Tryd.results42, go_sem, hc0, hf0]) rfl ⟨rfl, ?_⟩
  exact by with_reducible repeat (first | refine bel_set ?_ (by omega) _ | refine below_alloc ?_ _ | refine below_drew ?_ | refine bel_call ?_ hb0 | exact Below.refl _ _)
set_option maxRecDepth 100000 in
theorem toVehS (A : Option Addr) (c : Nat) (xs : List Veh) (hr : kVeh.C w A xs.length xs) (hm : xs.length ≤ 1048576) : Calls Tryd.prog 18 #[.slice A xs.length c] w fun e w' => ∃ v, e = .returned v ∧ kVeh.R 53 w' w.heap.size (fun _ => True) v xs ∧ Below w.heap.size w w' := by
  have HR := Aside0.mk hr; clear hr
  go_enter Tryd.func18, Tryd.ntmps18
  go_wp2_with (refine Kd.flat_make kVeh rfl 7 rfl rfl 30 _ _ rfl xs.length rfl rfl 53 Tryd.underlying30 zV 56 (by kernel_rfl) (by decide) (by decide) (by omega) (Below.refl _ _) ?_; intro v1 w1 hr1 hb1 _)
  have HR1 := Aside0.mk hr1; have HB1 := Aside0.mk hb1; clear hr1 hb1
  go_loopg [4] (xs.length + 1) (fun q v4 wr => ∃ k ys, q = xs.length + 1 - k ∧ k ≤ xs.length ∧ v4 = .int .i64 k ∧ Aside0 (Filled xs k ys) ∧ Aside0 (kVeh.R 53 wr w.heap.size (fun _ => True) v1 ys) ∧ Aside0 (Below w.heap.size w wr))
  case atStart => exact ⟨0, _, by omega, by omega, rfl, ⟨Filled.zero xs zV⟩, HR1, HB1⟩
  case round =>
    obtain ⟨k, ys, rfl, hk, rfl, HF, HO, HB⟩ := hrel
    clear HR1 HB1
    by_cases hlt : k < xs.length
    · have hf := HF.out.step hlt zV
      obtain ⟨ad, e0, h0, h1⟩ := Kd.flat_cells (d := kVeh) rfl (Kd.C_below HR.out HB.out) zV k hlt
      cases e0
      generalize xs.getD k zV = x at hf h0 h1
      have HF1 := Aside0.mk hf; clear hf
      have c0 := h0 _ rfl; have c1 := h1 0 _ rfl; have c2 := h1 1 _ rfl; have c3 := h1 2 _ rfl; have c4 := h1 3 _ rfl; have c5 := h1 4 _ rfl; have c6 := h1 5 _ rfl
      clear h0 h1
      obtain ⟨g, cap, rfl, hg, _, _⟩ := Kd.R_form HO.out (by rw [HF.out.1]; omega)
      have hky : k < ys.length := by rw [HF.out.1]; exact hlt
      go_wp2_with (first | (go_at_call 42; refine (toVeh _ x).mono ?_; rintro e w2 ⟨rfl, hb⟩) | ((with_reducible refine gate_store (t := 53) (p := 21) rfl ?_); refine Kd.flat_store kVeh rfl rfl rfl 53 _ _ rfl k x rfl rfl rfl (by kernel_rfl) (Kd.R_below HO.out hb) hky (bel_call HB.out hb) ?_; intro w3 hr3 hb3 _; have HO1 := Aside0.mk hr3; have HB1 := Aside0.mk hb3; clear hr3 hb3 hb))
      go_roundg (xs.length + 1 - (k + 1))
      case measure => omega
      case rel => exact ⟨k + 1, _, rfl, hlt, by go_num, HF1, HO1, HB1⟩
    · go_wp2
      go_ret
      exact ⟨_, rfl, by rw [← HF.out.done (by omega)]; exact HO.out, HB.out⟩
set_option maxHeartbeats 1000000 in
theorem eqVeh (v : Veh) : Calls Tryd.prog 52 #[.agg #[.int .i64 v.room, .int .i64 v.skills, .int .i64 v.home.x, .int .i64 v.home.y, .int .i64 v.home.o, .int .i64 v.home.c, .int .i64 v.home.h], .agg #[.int .i64 v.room, .int .i64 v.skills, .int .i64 v.home.x, .int .i64 v.home.y, .int .i64 v.home.o, .int .i64 v.home.c, .int .i64 v.home.h]] w fun e w' => e = .returned (.bool true) ∧ Below w.heap.size w w' := by
  go_enter Tryd.func52, Tryd.ntmps52
  go_wp2_with fail
  refine (eqPlace _ v.home).mono ?_; rintro e w0 ⟨rfl, hb0⟩; obtain ⟨hc0, hf0⟩ := bcell hb0; have hz0 : w.heap.size + 1 < w0.heap.size := by have := hb0.size; (try simp only [al_size] at this); omega
  go_wp2
  go_ret
  exact ⟨rfl, by with_reducible repeat (first | refine bel_set ?_ (by omega) _ | refine below_alloc ?_ _ | refine below_drew ?_ | refine bel_call ?_ hb0 | exact Below.refl _ _)⟩
set_option maxRecDepth 100000 in
theorem eqVehS (A A' : Option Addr) (c c' : Nat) (xs : List Veh) (hr : kVeh.C w A xs.length xs) (hr' : kVeh.C w A' xs.length xs) (hm : xs.length ≤ 1048576) : Calls Tryd.prog 27 #[.slice A xs.length c, .slice A' xs.length c'] w fun e w' => e = .returned (.bool true) ∧ Below w.heap.size w w' := by
  have HR := Aside0.mk hr; have HR' := Aside0.mk hr'; clear hr hr'
  go_enter Tryd.func27, Tryd.ntmps27
  go_wp2_with fail
  go_loopg [5] (xs.length + 1) (fun q v wr => ∃ k, q = xs.length + 1 - k ∧ k ≤ xs.length ∧ v = .int .i64 k ∧ Aside0 (Below w.heap.size w wr))
  case atStart => exact ⟨0, by omega, by omega, rfl, ⟨Below.refl _ _⟩⟩
  case round =>
    obtain ⟨k, rfl, hk, rfl, HB⟩ := hrel
    by_cases hlt : k < xs.length
    · obtain ⟨ad, e0, h0, h1⟩ := Kd.flat_cells (d := kVeh) rfl (Kd.C_below HR.out HB.out) zV k hlt
      obtain ⟨ad', e0', g0, g1⟩ := Kd.flat_cells (d := kVeh) rfl (Kd.C_below HR'.out HB.out) zV k hlt
      cases e0; cases e0'
      generalize xs.getD k zV = x at h0 h1 g0 g1
      have c0 := h0 _ rfl; have c1 := h1 0 _ rfl; have c2 := h1 1 _ rfl; have c3 := h1 2 _ rfl; have c4 := h1 3 _ rfl; have c5 := h1 4 _ rfl; have c6 := h1 5 _ rfl
      have d0 := g0 _ rfl; have d1 := g1 0 _ rfl; have d2 := g1 1 _ rfl; have d3 := g1 2 _ rfl; have d4 := g1 3 _ rfl; have d5 := g1 4 _ rfl; have d6 := g1 5 _ rfl
      clear h0 h1 g0 g1
      go_wp2_with fail
      go_still_tail 8, (by kernel_rfl)
      go_wp2_with (go_at_call 52; refine (eqVeh _ x).mono ?_; rintro e w2 ⟨rfl, hb⟩; have HB1 := Aside0.mk (bel_call (below_drew HB.out) hb); clear hb)
      go_roundg (xs.length + 1 - (k + 1))
      case measure => omega
      case rel => exact ⟨k + 1, rfl, hlt, by go_num, HB1⟩
    · go_wp2
      go_ret
      exact ⟨rfl, HB.out⟩
theorem szVehS (A : Option Addr) (n c : Nat) (left : Int) (h0 : 0 ≤ left) (h1 : left ≤ 1048576) (hn : n ≤ 9223372036854775807) : Calls Tryd.prog 13 #[.slice A n c, .int .i64 left] w fun e w' => e = .returned (.int .i64 (if left < n then -1 else left - n)) ∧ w = w' := by
  go_enter Tryd.func13, Tryd.ntmps13
  go_wp2
  all_goals (go_ret; exact ⟨by first | rfl | (rw [if_pos (by omega)]; rfl) | (rw [if_neg (by omega)]; rfl), rfl⟩)
set_option maxHeartbeats 1000000 in
theorem toReq (v : Req) : Calls Tryd.prog 43 #[.agg #[.int .i64 v.size, .int .i64 v.tags, .int .i64 v.from_.x, .int .i64 v.from_.y, .int .i64 v.from_.o, .int .i64 v.from_.c, .int .i64 v.from_.h, .int .i64 v.to_.x, .int .i64 v.to_.y, .int .i64 v.to_.o, .int .i64 v.to_.c, .int .i64 v.to_.h]] w fun e w' => e = .returned (.agg #[.int .i64 v.size, .int .i64 v.tags, .int .i64 v.from_.x, .int .i64 v.from_.y, .int .i64 v.from_.o, .int .i64 v.from_.c, .int .i64 v.from_.h, .int .i64 v.to_.x, .int .i64 v.to_.y, .int .i64 v.to_.o, .int .i64 v.to_.c, .int .i64 v.to_.h]) ∧ Below w.heap.size w w' := by
  go_enter Tryd.func43, Tryd.ntmps43
  go_wp2_with fail
  refine (toPlace _ v.from_).mono ?_; rintro e w0 ⟨rfl, hb0⟩
  have A := blk_below ((al_old (by simp only [al_size]; omega)).trans ((al_old (by simp only [al_size]; omega)).trans (al_new w _))) hb0
  have B := blk_below ((al_old (by simp only [al_size]; omega)).trans (al_new _ _)) hb0
  have D := blk_below (al_new _ _) hb0
  have hz := hb0.size
  simp only [al_size] at B D hz
  obtain ⟨a1, a2⟩ := lay (Below.refl _ _) A
  obtain ⟨d1, d2⟩ := lay (Below.refl _ _) D
  have HB0 := Aside0.mk hb0; have HA := Aside0.mk A; have HB := Aside0.mk B; have HD := Aside0.mk D; clear hb0 A B D
  go_wp2_with fail
  clear a1 a2 d1 d2
  refine (toPlace _ v.to_).mono ?_; rintro e w1 ⟨rfl, hb1⟩
  have A := blk_below (blk_far (blk_far (blk_far (blk_far (blk_far HA.out (by simp <;> omega) _) (by simp <;> omega) _) (by simp <;> omega) _) (by simp <;> omega) _) (by simp <;> omega) _) hb1
  have B := blk_below (blk_far (blk_far (blk_far (blk_far (blk_far HB.out (by simp <;> omega) _) (by simp <;> omega) _) (by simp <;> omega) _) (by simp <;> omega) _) (by simp <;> omega) _) hb1
  have D := blk_below (blk_set (blk_set (blk_set (blk_set (blk_set HD.out _ _) _ _) _ _) _ _) _ _) hb1
  simp only [List.setIfInBounds_toArray, List.set_cons_zero, List.set_cons_succ] at D
  obtain ⟨a1, a2⟩ := lay (Below.refl _ _) A
  obtain ⟨b1, b2⟩ := lay (Below.refl _ _) B
  obtain ⟨d1, d2⟩ := lay (Below.refl _ _) D
  have HB1 := Aside0.mk (bel_call (bel_set (bel_set (bel_set (bel_set (bel_set (bel_call (below_alloc (below_alloc (below_alloc (Below.refl _ _) _) _) _) HB0.out) (by omega) _) (by omega) _) (by omega) _) (by omega) _) (by omega) _) hb1); clear hb1 A B D
  go_wp2
  refine bodyPost_ret (v := .agg #[.int .i64 v.size, .int .i64 v.tags, .int .i64 v.from_.x, .int .i64 v.from_.y, .int .i64 v.from_.o, .int .i64 v.from_.c, .int .i64 v.from_.h, .int .i64 v.to_.x, .int .i64 v.to_.y, .int .i64 v.to_.o, .int .i64 v.to_.c, .int .i64 v.to_.h]) (by simp [results, Tryd.results43, go_sem, a1, a2, b1, b2, d1, d2]) rfl ⟨rfl, ?_⟩
  with_reducible repeat (first | refine bel_set ?_ (by omega) _ | exact HB1.out)
set_option maxRecDepth 100000 in
theorem toReqS (A : Option Addr) (c : Nat) (xs : List Req) (hr : kReq.C w A xs.length xs) (hm : xs.length ≤ 1048576) : Calls Tryd.prog 19 #[.slice A xs.length c] w fun e w' => ∃ v, e = .returned v ∧ kReq.R 59 w' w.heap.size (fun _ => True) v xs ∧ Below w.heap.size w w' := by
  have HR := Aside0.mk hr; clear hr
  go_enter Tryd.func19, Tryd.ntmps19
  go_wp2_with (refine Kd.flat_make kReq rfl 7 rfl rfl 31 _ _ rfl xs.length rfl rfl 59 Tryd.underlying31 zQ 96 (by kernel_rfl) (by decide) (by decide) (by omega) (Below.refl _ _) ?_; intro v1 w1 hr1 hb1 _)
  have HR1 := Aside0.mk hr1; have HB1 := Aside0.mk hb1; clear hr1 hb1
  go_loopg [4] (xs.length + 1) (fun q v4 wr => ∃ k ys, q = xs.length + 1 - k ∧ k ≤ xs.length ∧ v4 = .int .i64 k ∧ Aside0 (Filled xs k ys) ∧ Aside0 (kReq.R 59 wr w.heap.size (fun _ => True) v1 ys) ∧ Aside0 (Below w.heap.size w wr))
  case atStart => exact ⟨0, _, by omega, by omega, rfl, ⟨Filled.zero xs zQ⟩, HR1, HB1⟩
  case round =>
    obtain ⟨k, ys, rfl, hk, rfl, HF, HO, HB⟩ := hrel
    clear HR1 HB1
    by_cases hlt : k < xs.length
    · have hf := HF.out.step hlt zQ
      obtain ⟨ad, e0, h0, h1⟩ := Kd.flat_cells (d := kReq) rfl (Kd.C_below HR.out HB.out) zQ k hlt
      cases e0
      generalize xs.getD k zQ = x at hf h0 h1
      have HF1 := Aside0.mk hf; clear hf
      have c0 := h0 _ rfl; have c1 := h1 0 _ rfl; have c2 := h1 1 _ rfl; have c3 := h1 2 _ rfl; have c4 := h1 3 _ rfl; have c5 := h1 4 _ rfl; have c6 := h1 5 _ rfl; have c7 := h1 6 _ rfl; have c8 := h1 7 _ rfl; have c9 := h1 8 _ rfl; have c10 := h1 9 _ rfl; have c11 := h1 10 _ rfl
      clear h0 h1
      obtain ⟨g, cap, rfl, hg, _, _⟩ := Kd.R_form HO.out (by rw [HF.out.1]; omega)
      have hky : k < ys.length := by rw [HF.out.1]; exact hlt
      go_wp2_with (first | (go_at_call 43; refine (toReq _ x).mono ?_; rintro e w2 ⟨rfl, hb⟩) | ((with_reducible refine gate_store (t := 59) (p := 21) rfl ?_); refine Kd.flat_store kReq rfl rfl rfl 59 _ _ rfl k x rfl rfl rfl (by kernel_rfl) (Kd.R_below HO.out hb) hky (bel_call HB.out hb) ?_; intro w3 hr3 hb3 _; have HO1 := Aside0.mk hr3; have HB1 := Aside0.mk hb3; clear hr3 hb3 hb))
      go_roundg (xs.length + 1 - (k + 1))
      case measure => omega
      case rel => exact ⟨k + 1, _, rfl, hlt, by go_num, HF1, HO1, HB1⟩
    · go_wp2
      go_ret
      exact ⟨_, rfl, by rw [← HF.out.done (by omega)]; exact HO.out, HB.out⟩
set_option maxHeartbeats 1000000 in
theorem eqReq (v : Req) : Calls Tryd.prog 53 #[.agg #[.int .i64 v.size, .int .i64 v.tags, .int .i64 v.from_.x, .int .i64 v.from_.y, .int .i64 v.from_.o, .int .i64 v.from_.c, .int .i64 v.from_.h, .int .i64 v.to_.x, .int .i64 v.to_.y, .int .i64 v.to_.o, .int .i64 v.to_.c, .int .i64 v.to_.h], .agg #[.int .i64 v.size, .int .i64 v.tags, .int .i64 v.from_.x, .int .i64 v.from_.y, .int .i64 v.from_.o, .int .i64 v.from_.c, .int .i64 v.from_.h, .int .i64 v.to_.x, .int .i64 v.to_.y, .int .i64 v.to_.o, .int .i64 v.to_.c, .int .i64 v.to_.h]] w fun e w' => e = .returned (.bool true) ∧ Below w.heap.size w w' := by
  go_enter Tryd.func53, Tryd.ntmps53
  go_wp2_with fail
  refine (eqPlace _ v.from_).mono ?_; rintro e w0 ⟨rfl, hb0⟩; obtain ⟨hc0, hf0⟩ := bcell hb0; have hz0 : w.heap.size + 1 < w0.heap.size := by have := hb0.size; (try simp only [al_size] at this); omega
  go_wp2_with fail
  refine (eqPlace _ v.to_).mono ?_; rintro e w1 ⟨rfl, hb1⟩; obtain ⟨hc1, hf1⟩ := bcell hb1; have hz1 : w.heap.size + 1 < w1.heap.size := by have := hb1.size; (try simp only [al_size] at this); omega
  go_wp2
  go_ret
  exact ⟨rfl, by with_reducible repeat (first | refine bel_set ?_ (by omega) _ | refine below_alloc ?_ _ | refine below_drew ?_ | refine bel_call ?_ hb0 | refine bel_call ?_ hb1 | exact Below.refl _ _)⟩
set_option maxRecDepth 100000 in
theorem eqReqS (A A' : Option Addr) (c c' : Nat) (xs : List Req) (hr : kReq.C w A xs.length xs) (hr' : kReq.C w A' xs.length xs) (hm : xs.length ≤ 1048576) : Calls Tryd.prog 28 #[.slice A xs.length c, .slice A' xs.length c'] w fun e w' => e = .returned (.bool true) ∧ Below w.heap.size w w' := by
  have HR := Aside0.mk hr; have HR' := Aside0.mk hr'; clear hr hr'
  go_enter Tryd.func28, Tryd.ntmps28
  go_wp2_with fail
  go_loopg [5] (xs.length + 1) (fun q v wr => ∃ k, q = xs.length + 1 - k ∧ k ≤ xs.length ∧ v = .int .i64 k ∧ Aside0 (Below w.heap.size w wr))
  case atStart => exact ⟨0, by omega, by omega, rfl, ⟨Below.refl _ _⟩⟩
  case round =>
    obtain ⟨k, rfl, hk, rfl, HB⟩ := hrel
    by_cases hlt : k < xs.length
    · obtain ⟨ad, e0, h0, h1⟩ := Kd.flat_cells (d := kReq) rfl (Kd.C_below HR.out HB.out) zQ k hlt
      obtain ⟨ad', e0', g0, g1⟩ := Kd.flat_cells (d := kReq) rfl (Kd.C_below HR'.out HB.out) zQ k hlt
      cases e0; cases e0'
      generalize xs.getD k zQ = x at h0 h1 g0 g1
      have c0 := h0 _ rfl; have c1 := h1 0 _ rfl; have c2 := h1 1 _ rfl; have c3 := h1 2 _ rfl; have c4 := h1 3 _ rfl; have c5 := h1 4 _ rfl; have c6 := h1 5 _ rfl; have c7 := h1 6 _ rfl; have c8 := h1 7 _ rfl; have c9 := h1 8 _ rfl; have c10 := h1 9 _ rfl; have c11 := h1 10 _ rfl
      have d0 := g0 _ rfl; have d1 := g1 0 _ rfl; have d2 := g1 1 _ rfl; have d3 := g1 2 _ rfl; have d4 := g1 3 _ rfl; have d5 := g1 4 _ rfl; have d6 := g1 5 _ rfl; have d7 := g1 6 _ rfl; have d8 := g1 7 _ rfl; have d9 := g1 8 _ rfl; have d10 := g1 9 _ rfl; have d11 := g1 10 _ rfl
      clear h0 h1 g0 g1
      go_wp2_with fail
      go_still_tail 8, (by kernel_rfl)
      go_wp2_with (go_at_call 53; refine (eqReq _ x).mono ?_; rintro e w2 ⟨rfl, hb⟩; have HB1 := Aside0.mk (bel_call (below_drew HB.out) hb); clear hb)
      go_roundg (xs.length + 1 - (k + 1))
      case measure => omega
      case rel => exact ⟨k + 1, rfl, hlt, by go_num, HB1⟩
    · go_wp2
      go_ret
      exact ⟨rfl, HB.out⟩
theorem szReqS (A : Option Addr) (n c : Nat) (left : Int) (h0 : 0 ≤ left) (h1 : left ≤ 1048576) (hn : n ≤ 9223372036854775807) : Calls Tryd.prog 14 #[.slice A n c, .int .i64 left] w fun e w' => e = .returned (.int .i64 (if left < n then -1 else left - n)) ∧ w = w' := by
  go_enter Tryd.func14, Tryd.ntmps14
  go_wp2
  all_goals (go_ret; exact ⟨by first | rfl | (rw [if_pos (by omega)]; rfl) | (rw [if_neg (by omega)]; rfl), rfl⟩)
set_option maxHeartbeats 1000000 in
theorem toRoad (v : Road) : Calls Tryd.prog 44 #[.agg #[.int .i64 v.a, .int .i64 v.b, .int .i64 v.t]] w fun e w' => e = .returned (.agg #[.int .i64 v.a, .int .i64 v.b, .int .i64 v.t]) ∧ Below w.heap.size w w' := by
  go_enter Tryd.func44, Tryd.ntmps44
  go_wp2
  refine bodyPost_ret (v := .agg #[.int .i64 v.a, .int .i64 v.b, .int .i64 v.t]) (by simp [results, Tryd.results44, go_sem]) rfl ⟨rfl, ?_⟩
  exact by with_reducible repeat (first | refine bel_set ?_ (by omega) _ | refine below_alloc ?_ _ | refine below_drew ?_ | exact Below.refl _ _)
set_option maxRecDepth 100000 in
theorem toRoadS (A : Option Addr) (c : Nat) (xs : List Road) (hr : kRoad.C w A xs.length xs) (hm : xs.length ≤ 1048576) : Calls Tryd.prog 20 #[.slice A xs.length c] w fun e w' => ∃ v, e = .returned v ∧ kRoad.R 61 w' w.heap.size (fun _ => True) v xs ∧ Below w.heap.size w w' := by
  have HR := Aside0.mk hr; clear hr
  go_enter Tryd.func20, Tryd.ntmps20
  go_wp2_with (refine Kd.flat_make kRoad rfl 7 rfl rfl 32 _ _ rfl xs.length rfl rfl 61 Tryd.underlying32 zR 24 (by kernel_rfl) (by decide) (by decide) (by omega) (Below.refl _ _) ?_; intro v1 w1 hr1 hb1 _)
  have HR1 := Aside0.mk hr1; have HB1 := Aside0.mk hb1; clear hr1 hb1
  go_loopg [4] (xs.length + 1) (fun q v4 wr => ∃ k ys, q = xs.length + 1 - k ∧ k ≤ xs.length ∧ v4 = .int .i64 k ∧ Aside0 (Filled xs k ys) ∧ Aside0 (kRoad.R 61 wr w.heap.size (fun _ => True) v1 ys) ∧ Aside0 (Below w.heap.size w wr))
  case atStart => exact ⟨0, _, by omega, by omega, rfl, ⟨Filled.zero xs zR⟩, HR1, HB1⟩
  case round =>
    obtain ⟨k, ys, rfl, hk, rfl, HF, HO, HB⟩ := hrel
    clear HR1 HB1
    by_cases hlt : k < xs.length
    · have hf := HF.out.step hlt zR
      obtain ⟨ad, e0, h0, h1⟩ := Kd.flat_cells (d := kRoad) rfl (Kd.C_below HR.out HB.out) zR k hlt
      cases e0
      generalize xs.getD k zR = x at hf h0 h1
      have HF1 := Aside0.mk hf; clear hf
      have c0 := h0 _ rfl; have c1 := h1 0 _ rfl; have c2 := h1 1 _ rfl
      clear h0 h1
      obtain ⟨g, cap, rfl, hg, _, _⟩ := Kd.R_form HO.out (by rw [HF.out.1]; omega)
      have hky : k < ys.length := by rw [HF.out.1]; exact hlt
      go_wp2_with (first | (go_at_call 44; refine (toRoad _ x).mono ?_; rintro e w2 ⟨rfl, hb⟩) | ((with_reducible refine gate_store (t := 61) (p := 21) rfl ?_); refine Kd.flat_store kRoad rfl rfl rfl 61 _ _ rfl k x rfl rfl rfl (by kernel_rfl) (Kd.R_below HO.out hb) hky (bel_call HB.out hb) ?_; intro w3 hr3 hb3 _; have HO1 := Aside0.mk hr3; have HB1 := Aside0.mk hb3; clear hr3 hb3 hb))
      go_roundg (xs.length + 1 - (k + 1))
      case measure => omega
      case rel => exact ⟨k + 1, _, rfl, hlt, by go_num, HF1, HO1, HB1⟩
    · go_wp2
      go_ret
      exact ⟨_, rfl, by rw [← HF.out.done (by omega)]; exact HO.out, HB.out⟩
set_option maxHeartbeats 1000000 in
theorem eqRoad (v : Road) : Calls Tryd.prog 54 #[.agg #[.int .i64 v.a, .int .i64 v.b, .int .i64 v.t], .agg #[.int .i64 v.a, .int .i64 v.b, .int .i64 v.t]] w fun e w' => e = .returned (.bool true) ∧ Below w.heap.size w w' := by
  go_enter Tryd.func54, Tryd.ntmps54
  go_wp2
  go_ret
  exact ⟨rfl, by with_reducible repeat (first | refine bel_set ?_ (by omega) _ | refine below_alloc ?_ _ | refine below_drew ?_ | exact Below.refl _ _)⟩
set_option maxRecDepth 100000 in
theorem eqRoadS (A A' : Option Addr) (c c' : Nat) (xs : List Road) (hr : kRoad.C w A xs.length xs) (hr' : kRoad.C w A' xs.length xs) (hm : xs.length ≤ 1048576) : Calls Tryd.prog 29 #[.slice A xs.length c, .slice A' xs.length c'] w fun e w' => e = .returned (.bool true) ∧ Below w.heap.size w w' := by
  have HR := Aside0.mk hr; have HR' := Aside0.mk hr'; clear hr hr'
  go_enter Tryd.func29, Tryd.ntmps29
  go_wp2_with fail
  go_loopg [5] (xs.length + 1) (fun q v wr => ∃ k, q = xs.length + 1 - k ∧ k ≤ xs.length ∧ v = .int .i64 k ∧ Aside0 (Below w.heap.size w wr))
  case atStart => exact ⟨0, by omega, by omega, rfl, ⟨Below.refl _ _⟩⟩
  case round =>
    obtain ⟨k, rfl, hk, rfl, HB⟩ := hrel
    by_cases hlt : k < xs.length
    · obtain ⟨ad, e0, h0, h1⟩ := Kd.flat_cells (d := kRoad) rfl (Kd.C_below HR.out HB.out) zR k hlt
      obtain ⟨ad', e0', g0, g1⟩ := Kd.flat_cells (d := kRoad) rfl (Kd.C_below HR'.out HB.out) zR k hlt
      cases e0; cases e0'
      generalize xs.getD k zR = x at h0 h1 g0 g1
      have c0 := h0 _ rfl; have c1 := h1 0 _ rfl; have c2 := h1 1 _ rfl
      have d0 := g0 _ rfl; have d1 := g1 0 _ rfl; have d2 := g1 1 _ rfl
      clear h0 h1 g0 g1
      go_wp2_with fail
      go_still_tail 8, (by kernel_rfl)
      go_wp2_with (go_at_call 54; refine (eqRoad _ x).mono ?_; rintro e w2 ⟨rfl, hb⟩; have HB1 := Aside0.mk (bel_call (below_drew HB.out) hb); clear hb)
      go_roundg (xs.length + 1 - (k + 1))
      case measure => omega
      case rel => exact ⟨k + 1, rfl, hlt, by go_num, HB1⟩
    · go_wp2
      go_ret
      exact ⟨rfl, HB.out⟩
theorem szRoadS (A : Option Addr) (n c : Nat) (left : Int) (h0 : 0 ≤ left) (h1 : left ≤ 1048576) (hn : n ≤ 9223372036854775807) : Calls Tryd.prog 15 #[.slice A n c, .int .i64 left] w fun e w' => e = .returned (.int .i64 (if left < n then -1 else left - n)) ∧ w = w' := by
  go_enter Tryd.func15, Tryd.ntmps15
  go_wp2
  all_goals (go_ret; exact ⟨by first | rfl | (rw [if_pos (by omega)]; rfl) | (rw [if_neg (by omega)]; rfl), rfl⟩)
end
end Go.Proofs.YteefopaoodfapaaDoor.L1
