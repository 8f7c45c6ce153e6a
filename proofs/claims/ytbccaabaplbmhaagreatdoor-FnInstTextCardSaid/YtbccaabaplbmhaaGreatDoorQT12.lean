/- The reference's draws: an instance spoilt: a node too many. The reference's draws: an instance spoilt: a request. The reference's draws: an instance spoilt: a vehicle. The reference's draws: an instance spoilt: the whole. -/
import Derived.Test.YtbccaabaplbmhaaGreatDoorQT11
namespace Go.Proofs.YtbccaabaplbmhaaGreatDoor.L1
open Go.RowKit Go.Proofs.YtbccaabaplbmhaaGreatDoorW.PrintWords Go.Proofs.YtbccaabaplbmhaaGreatDoor.B
set_option linter.unusedVariables false
set_option linter.unusedSimpArgs false
attribute [local go_sem] mk_cell mk_frozen
section
variable (w : World)
set_option maxRecDepth 1000000 in
set_option maxHeartbeats 16000000 in
theorem spoil8 (w0 : World) (X : List (Nat × Obj)) (bi bo : Nat) (g : Nat) (A : Option Addr) (c : Nat) (bs : List Int) (res : Inst × Cu) (k : Int) (s : Cu) (vs : List Veh) (qs : List Req) (rs : List Road) (v0 v1 v2 : Value) {t1 t2 t6 t7 t8 t9 t10 t11 t12 t13 t14 t15 t16 t17 t18 t19 t20 t21 t22 t23 t24 t25 t26 t27 t28 t29 t30 t31 t32 t33 t34 t35 t36 t37 t38 t39 t40 t41 t42 t43 t44 t45 t46 t47 t48 t49 t50 t51 t52 t53 t54 t55 t56 t57 t58 t59 t60 t61 t62 t63 t64 t65 t66 t67 t68 t69 t70 t71 t72 t73 t74 t75 t76 t77 t78 t79 t80 t81 t82 t83 t84 t85 t86 t87 t88 t89 t90 t91 t92 t93 t94 t95 t96 t97 t98 t99 t100 t101 t102 t103 t104 t105 t106 t107 t108 t109 t110 t111 t112 t113 t114 t115 t116 t117 t118 t119 t120 t121 t122 t123 t124 t125 t126 t127 t128 t129 t130 t131 t132 t133 t134 t135 t136 t137 t138 t139 t140 t141 t142 t143 t144 t145 t146 t147 t148 t149 t150 t151 : Value} (W : World) (hk : 0 ≤ k ∧ k < 12) (hl : rs.length ≤ 97) (hS : IQ w0 w X bi bo g A c bs s ⟨vs, qs, rs⟩ v0 v1 v2 [] W) (hv : vs.length ≤ 100) (hq : qs.length ≤ 100) (hD : ((⟨vs, qs, sp11 k (sp10 k (sp9 k ((vs.length : Int) + 2 * (qs.length : Int)) (sp8 k ((vs.length : Int) + 2 * (qs.length : Int)) rs)))⟩, s) : Inst × Cu) = res) : Code.wp Tryz.prog (sufAt 26 (Tryz.f34.body.getD .skip)) (bodyPost Tryz.prog Tryz.f34 (InstPostX w0 w X g A c bs res)) ⟨#[.pointer (some ⟨g, 0, none⟩), t1, t2, .pointer (some ⟨bi, 0, none⟩), .pointer (some ⟨bo, 0, none⟩), .int .i64 k, t6, t7, t8, t9, t10, t11, t12, t13, t14, t15, t16, t17, t18, t19, t20, t21, t22, t23, t24, t25, t26, t27, t28, t29, t30, t31, t32, t33, t34, t35, t36, t37, t38, t39, t40, t41, t42, t43, t44, t45, t46, t47, t48, t49, t50, t51, t52, t53, t54, t55, t56, t57, t58, t59, t60, t61, t62, t63, t64, t65, t66, t67, t68, t69, t70, t71, t72, t73, t74, t75, t76, t77, t78, t79, t80, t81, t82, t83, t84, t85, t86, t87, t88, t89, t90, t91, t92, t93, t94, t95, t96, t97, t98, t99, t100, t101, t102, t103, t104, t105, t106, t107, t108, t109, t110, t111, t112, t113, t114, t115, t116, t117, t118, t119, t120, t121, t122, t123, t124, t125, t126, t127, t128, t129, t130, t131, t132, t133, t134, t135, t136, t137, t138, t139, t140, t141, t142, t143, t144, t145, t146, t147, t148, t149, t150, t151], []⟩ W := by
  have HS := Aside0.mk hS; have HD := Aside0.mk hD; have HKB := Aside0.mk hk; have HLB := Aside0.mk hl; clear hS hD hk hl
  obtain ⟨A0, c0, rfl⟩ := Kd.R_slice HS.out.r0
  obtain ⟨A1, c1, rfl⟩ := Kd.R_slice HS.out.r1
  conv => arg 2; whnf
  dsimp only
  obtain ⟨A2, c2, rfl⟩ := Kd.R_slice HS.out.r2
  obtain ⟨i1, i2⟩ := lay (Below.refl _ _) HS.out.inn

  go_wp2_with fail
  go_at_call 16
  refine (spec_nodes _ A0 A1 A2 vs.length qs.length rs.length c0 c1 c2 (by omega) (by omega)).mono ?_
  rintro e w1 ⟨rfl, hb⟩
  clear i1 i2
  have HS1 := Aside0.mk (HS.out.on hb); clear hb HS
  obtain ⟨i1, i2⟩ := lay (Below.refl _ _) HS1.out.inn
  have HS := HS1; clear HS1
  generalize (vs.length : Int) + 2 * (qs.length : Int) = n at HD ⊢

  go_upto_if 98 with fail
  go_cut [] from 11 (fun wx => ∃ v2, IQ w0 w X bi bo g A c bs s ⟨vs, qs, sp8 k n rs⟩ (.slice A0 vs.length c0) (.slice A1 qs.length c1) v2 [] wx)
  case first =>
    by_cases hb : k = 8
    · rw [show (k == 8) = true from beq_iff_eq.2 hb]
      have HB := Aside0.mk hb; clear hb
      go_upto_region 28 with fail
      have HX := Aside0.mk (HS.out.on (below_alloc (Below.refl _ _) (.cells #[.int .i64 n, .int .i64 0, .int .i64 5] 51)))
      have HN1 := Aside0.mk (flat_lit (d := kRoad) rfl w1 w.heap.size 51 [⟨n, 0, 5⟩] HS.out.fr.tch.size (sl_max 1 (by decide)))
      go_wp2_with (first
        | (refine Kd.flat_append_row kRoad rfl (w0 := _) w.heap.size rfl _ _ 25 51 zR 24 rfl Tryz.underlying25 (by kernel_rfl) (by decide) (by decide) (.slice A2 rs.length c2) rs [⟨n, 0, 5⟩] _ _ _ rfl rfl (Kd.R_mono HX.out.r2 (fun _ _ => trivial)) (Kd.R_reads' HN1.out).2.2 (Below.refl _ _) HX.out.fr.tch.size (by have := HLB.out; show (_ + 1) * 24 ≤ _; omega) ?_; intro vnew w12 hr hb hg _; clear i1 i2; have hfr := (HX.out.apart HX.out.r2 (by decide) hg).mem 0 rfl; obtain ⟨i1, i2⟩ := lay (Below.refl _ _) hfr; obtain ⟨A3, c3, rfl⟩ := Kd.R_slice hr; have H12 := Aside0.mk (HX.out.app2 hr hg); clear hr hb hg hfr))
      go_meet
      rw [show (rs ++ [(⟨n, 0, 5⟩ : Road)]).length = rs.length + 1 by rw [List.length_append]; rfl] at H12
      exact ⟨_, by unfold sp8; rw [if_pos HB.out]; exact H12.out⟩
    · rw [show (k == 8) = false from beq_false_of_ne hb]
      have HB := Aside0.mk hb; clear hb
      go_wp2
      go_meet
      exact ⟨_, by unfold sp8; rw [if_neg HB.out]; exact HS.out⟩
  case rest =>
    rename World => w2
    obtain ⟨v2', hs⟩ := hcut
    go_step
    exact spoil9 w w0 X bi bo g A c bs res k n s vs qs (sp8 k n rs) _ _ _ _ HKB.out (by have := HLB.out; unfold sp8; split <;> (try rw [List.length_append]) <;> simp <;> omega) hs HD.out
end
end Go.Proofs.YtbccaabaplbmhaaGreatDoor.L1
namespace Go.Proofs.YtbccaabaplbmhaaGreatDoor.L1
open Go.RowKit Go.Proofs.YtbccaabaplbmhaaGreatDoorW.PrintWords Go.Proofs.YtbccaabaplbmhaaGreatDoor.B
set_option linter.unusedVariables false
set_option linter.unusedSimpArgs false
attribute [local go_sem] mk_cell mk_frozen
theorem kReq_cells {W : World} {e base g3 n cap ln : Nat} {ok : Nat → Prop} {xs : List Req} {y : Req} (h : kReq.R e W base ok (.slice (some ⟨g3, 0, none⟩) n cap) xs) (hl : ln < xs.length) (hy : xs.getD ln zQ = y) : W.cell? ⟨g3, ln * 12, none⟩ = some (.int .i64 y.size) ∧ W.cell? ⟨g3, ln * 12 + 1, none⟩ = some (.int .i64 y.tags) ∧ W.cell? ⟨g3, ln * 12 + 2, none⟩ = some (.int .i64 y.from_.x) ∧ W.cell? ⟨g3, ln * 12 + 3, none⟩ = some (.int .i64 y.from_.y) ∧ W.cell? ⟨g3, ln * 12 + 4, none⟩ = some (.int .i64 y.from_.o) ∧ W.cell? ⟨g3, ln * 12 + 5, none⟩ = some (.int .i64 y.from_.c) ∧ W.cell? ⟨g3, ln * 12 + 6, none⟩ = some (.int .i64 y.from_.h) ∧ W.cell? ⟨g3, ln * 12 + 7, none⟩ = some (.int .i64 y.to_.x) ∧ W.cell? ⟨g3, ln * 12 + 8, none⟩ = some (.int .i64 y.to_.y) ∧ W.cell? ⟨g3, ln * 12 + 9, none⟩ = some (.int .i64 y.to_.o) ∧ W.cell? ⟨g3, ln * 12 + 10, none⟩ = some (.int .i64 y.to_.c) ∧ W.cell? ⟨g3, ln * 12 + 11, none⟩ = some (.int .i64 y.to_.h) := by
  have hn := (Kd.R_reads' h).1
  subst hn
  obtain ⟨ad, e0, h0, h1⟩ := Kd.flat_cells (d := kReq) rfl (Kd.R_reads' h).2.2 zQ ln hl
  cases e0
  rw [hy] at h0 h1
  exact ⟨by (have h := h0 _ rfl; rw [Addr.add_lit, Nat.zero_add] at h; exact h), cell_shift (h1 0 _ rfl) rfl, cell_shift (h1 1 _ rfl) rfl, cell_shift (h1 2 _ rfl) rfl, cell_shift (h1 3 _ rfl) rfl, cell_shift (h1 4 _ rfl) rfl, cell_shift (h1 5 _ rfl) rfl, cell_shift (h1 6 _ rfl) rfl, cell_shift (h1 7 _ rfl) rfl, cell_shift (h1 8 _ rfl) rfl, cell_shift (h1 9 _ rfl) rfl, cell_shift (h1 10 _ rfl) rfl⟩
theorem sp1_len (bs : List Int) (k : Int) (qs : List Req) (s : Cu) : (sp1 bs k qs s).1.length = qs.length := by
  unfold sp1
  split
  · exact List.length_set ..
  · rfl
theorem and_nd2 {p q r : Prop} [Decidable p] [Decidable q] [Decidable r] (h : ¬ ((p ∧ q) ∧ r)) : ((decide p && decide q) && decide r) = false := by
  cases hc : ((decide p && decide q) && decide r) with
  | false => rfl
  | true => simp only [Bool.and_eq_true, decide_eq_true_eq] at hc; exact absurd hc h
section
variable (w : World)
set_option maxRecDepth 1000000 in
set_option maxHeartbeats 16000000 in
theorem spoil1 (w0 : World) (X : List (Nat × Obj)) (bi bo : Nat) (g : Nat) (A : Option Addr) (c : Nat) (bs : List Int) (res : Inst × Cu) (k : Int) (s : Cu) (vs : List Veh) (qs : List Req) (rs : List Road) (v0 v1 v2 : Value) {t1 t2 t6 t7 t8 t9 t10 t11 t12 t13 t14 t15 t16 t17 t18 t19 t20 t21 t22 t23 t24 t25 t26 t27 t28 t29 t30 t31 t32 t33 t34 t35 t36 t37 t38 t39 t40 t41 t42 t43 t44 t45 t46 t47 t48 t49 t50 t51 t52 t53 t54 t55 t56 t57 t58 t59 t60 t61 t62 t63 t64 t65 t66 t67 t68 t69 t70 t71 t72 t73 t74 t75 t76 t77 t78 t79 t80 t81 t82 t83 t84 t85 t86 t87 t88 t89 t90 t91 t92 t93 t94 t95 t96 t97 t98 t99 t100 t101 t102 t103 t104 t105 t106 t107 t108 t109 t110 t111 t112 t113 t114 t115 t116 t117 t118 t119 t120 t121 t122 t123 t124 t125 t126 t127 t128 t129 t130 t131 t132 t133 t134 t135 t136 t137 t138 t139 t140 t141 t142 t143 t144 t145 t146 t147 t148 t149 t150 t151 : Value} (W : World) (hk : 0 ≤ k ∧ k < 12) (hl : rs.length ≤ 97) (hS : IQ w0 w X bi bo g A c bs s ⟨vs, qs, rs⟩ v0 v1 v2 [] W) (hv : vs.length ≤ 100) (hq : qs.length ≤ 100) (hD : (bnd (sp1 bs k qs s) fun qs s3 => ((⟨vs, qs, sp11 k (sp10 k (sp9 k ((vs.length : Int) + 2 * (qs.length : Int)) (sp8 k ((vs.length : Int) + 2 * (qs.length : Int)) rs)))⟩, s3) : Inst × Cu)) = res) : Code.wp Tryz.prog (sufAt 14 (Tryz.f34.body.getD .skip)) (bodyPost Tryz.prog Tryz.f34 (InstPostX w0 w X g A c bs res)) ⟨#[.pointer (some ⟨g, 0, none⟩), t1, t2, .pointer (some ⟨bi, 0, none⟩), .pointer (some ⟨bo, 0, none⟩), .int .i64 k, t6, t7, t8, t9, t10, t11, t12, t13, t14, t15, t16, t17, t18, t19, t20, t21, t22, t23, t24, t25, t26, t27, t28, t29, t30, t31, t32, t33, t34, t35, t36, t37, t38, t39, t40, t41, t42, t43, t44, t45, t46, t47, t48, t49, t50, t51, t52, t53, t54, t55, t56, t57, t58, t59, t60, t61, t62, t63, t64, t65, t66, t67, t68, t69, t70, t71, t72, t73, t74, t75, t76, t77, t78, t79, t80, t81, t82, t83, t84, t85, t86, t87, t88, t89, t90, t91, t92, t93, t94, t95, t96, t97, t98, t99, t100, t101, t102, t103, t104, t105, t106, t107, t108, t109, t110, t111, t112, t113, t114, t115, t116, t117, t118, t119, t120, t121, t122, t123, t124, t125, t126, t127, t128, t129, t130, t131, t132, t133, t134, t135, t136, t137, t138, t139, t140, t141, t142, t143, t144, t145, t146, t147, t148, t149, t150, t151], []⟩ W := by
  have HS := Aside0.mk hS; have HD := Aside0.mk hD; have HKB := Aside0.mk hk; have HLB := Aside0.mk hl; clear hS hD hk hl
  have HNL := Aside0.mk hq
  obtain ⟨xf, sf, hx, hxl⟩ : ∃ xf sf, sp1 bs k qs s = (xf, sf) ∧ xf.length = qs.length := ⟨_, _, rfl, sp1_len bs k qs s⟩
  rw [hx, bnd_mk] at HD
  have HX := Aside0.mk hx; clear hx
  conv => arg 2; whnf
  dsimp only
  obtain ⟨A0, c0, rfl⟩ := Kd.R_slice HS.out.r1
  obtain ⟨i1, i2⟩ := lay (Below.refl _ _) HS.out.inn
  go_upto_region 14 with fail
  go_cut [65] from 8 (fun vb wx => vb = .bool ((decide (4 ≤ k) && decide (k < 8)) && decide (0 < (qs.length : Int))) ∧ IQ w0 w X bi bo g A c bs s ⟨vs, qs, rs⟩ v0 (.slice A0 qs.length c0) v2 [] wx)
  case first =>
    by_cases h0 : 4 ≤ k
    · by_cases h1 : k < 8
      · by_cases h2 : 0 < (qs.length : Int)
        · have f0 : decide (4 ≤ k) = true := by first | (exact decide_eq_true (by omega)) | (simp; omega) | (simp [*]; done)
          have f1 : decide (k ≥ 4) = true := by first | (exact decide_eq_true (by omega)) | (simp; omega) | (simp [*]; done)
          have f2 : decide (k < 8) = true := by first | (exact decide_eq_true (by omega)) | (simp; omega) | (simp [*]; done)
          have f3 : decide (0 < (qs.length : Int)) = true := by first | (exact decide_eq_true (by omega)) | (simp; omega) | (simp [*]; done)
          have f4 : decide ((qs.length : Int) > 0) = true := by first | (exact decide_eq_true (by omega)) | (simp; omega) | (simp [*]; done)
          have P0 := Aside0.mk h0; clear h0
          have P1 := Aside0.mk h1; clear h1
          have P2 := Aside0.mk h2; clear h2
          go_wp2
          all_goals go_meet
          all_goals exact ⟨by have h0 := P0.out; have h1 := P1.out; have h2 := P2.out; simp; omega, HS.out⟩
        · have f0 : decide (4 ≤ k) = true := by first | (exact decide_eq_true (by omega)) | (simp; omega) | (simp [*]; done)
          have f1 : decide (k ≥ 4) = true := by first | (exact decide_eq_true (by omega)) | (simp; omega) | (simp [*]; done)
          have f2 : decide (k < 8) = true := by first | (exact decide_eq_true (by omega)) | (simp; omega) | (simp [*]; done)
          have f3 : decide (0 < (qs.length : Int)) = false := by first | (exact decide_eq_false (by omega)) | (simp; omega) | (simp [*]; done)
          have f4 : decide ((qs.length : Int) > 0) = false := by first | (exact decide_eq_false (by omega)) | (simp; omega) | (simp [*]; done)
          have P0 := Aside0.mk h0; clear h0
          have P1 := Aside0.mk h1; clear h1
          have P2 := Aside0.mk h2; clear h2
          go_wp2
          all_goals go_meet
          all_goals exact ⟨by have h0 := P0.out; have h1 := P1.out; have h2 := P2.out; simp; omega, HS.out⟩
      · by_cases h2 : 0 < (qs.length : Int)
        · have f0 : decide (4 ≤ k) = true := by first | (exact decide_eq_true (by omega)) | (simp; omega) | (simp [*]; done)
          have f1 : decide (k ≥ 4) = true := by first | (exact decide_eq_true (by omega)) | (simp; omega) | (simp [*]; done)
          have f2 : decide (k < 8) = false := by first | (exact decide_eq_false (by omega)) | (simp; omega) | (simp [*]; done)
          have f3 : decide (0 < (qs.length : Int)) = true := by first | (exact decide_eq_true (by omega)) | (simp; omega) | (simp [*]; done)
          have f4 : decide ((qs.length : Int) > 0) = true := by first | (exact decide_eq_true (by omega)) | (simp; omega) | (simp [*]; done)
          have P0 := Aside0.mk h0; clear h0
          have P1 := Aside0.mk h1; clear h1
          have P2 := Aside0.mk h2; clear h2
          go_wp2
          all_goals go_meet
          all_goals exact ⟨by have h0 := P0.out; have h1 := P1.out; have h2 := P2.out; simp; omega, HS.out⟩
        · have f0 : decide (4 ≤ k) = true := by first | (exact decide_eq_true (by omega)) | (simp; omega) | (simp [*]; done)
          have f1 : decide (k ≥ 4) = true := by first | (exact decide_eq_true (by omega)) | (simp; omega) | (simp [*]; done)
          have f2 : decide (k < 8) = false := by first | (exact decide_eq_false (by omega)) | (simp; omega) | (simp [*]; done)
          have f3 : decide (0 < (qs.length : Int)) = false := by first | (exact decide_eq_false (by omega)) | (simp; omega) | (simp [*]; done)
          have f4 : decide ((qs.length : Int) > 0) = false := by first | (exact decide_eq_false (by omega)) | (simp; omega) | (simp [*]; done)
          have P0 := Aside0.mk h0; clear h0
          have P1 := Aside0.mk h1; clear h1
          have P2 := Aside0.mk h2; clear h2
          go_wp2
          all_goals go_meet
          all_goals exact ⟨by have h0 := P0.out; have h1 := P1.out; have h2 := P2.out; simp; omega, HS.out⟩
    · by_cases h1 : k < 8
      · by_cases h2 : 0 < (qs.length : Int)
        · have f0 : decide (4 ≤ k) = false := by first | (exact decide_eq_false (by omega)) | (simp; omega) | (simp [*]; done)
          have f1 : decide (k ≥ 4) = false := by first | (exact decide_eq_false (by omega)) | (simp; omega) | (simp [*]; done)
          have f2 : decide (k < 8) = true := by first | (exact decide_eq_true (by omega)) | (simp; omega) | (simp [*]; done)
          have f3 : decide (0 < (qs.length : Int)) = true := by first | (exact decide_eq_true (by omega)) | (simp; omega) | (simp [*]; done)
          have f4 : decide ((qs.length : Int) > 0) = true := by first | (exact decide_eq_true (by omega)) | (simp; omega) | (simp [*]; done)
          have P0 := Aside0.mk h0; clear h0
          have P1 := Aside0.mk h1; clear h1
          have P2 := Aside0.mk h2; clear h2
          go_wp2
          all_goals go_meet
          all_goals exact ⟨by have h0 := P0.out; have h1 := P1.out; have h2 := P2.out; simp; omega, HS.out⟩
        · have f0 : decide (4 ≤ k) = false := by first | (exact decide_eq_false (by omega)) | (simp; omega) | (simp [*]; done)
          have f1 : decide (k ≥ 4) = false := by first | (exact decide_eq_false (by omega)) | (simp; omega) | (simp [*]; done)
          have f2 : decide (k < 8) = true := by first | (exact decide_eq_true (by omega)) | (simp; omega) | (simp [*]; done)
          have f3 : decide (0 < (qs.length : Int)) = false := by first | (exact decide_eq_false (by omega)) | (simp; omega) | (simp [*]; done)
          have f4 : decide ((qs.length : Int) > 0) = false := by first | (exact decide_eq_false (by omega)) | (simp; omega) | (simp [*]; done)
          have P0 := Aside0.mk h0; clear h0
          have P1 := Aside0.mk h1; clear h1
          have P2 := Aside0.mk h2; clear h2
          go_wp2
          all_goals go_meet
          all_goals exact ⟨by have h0 := P0.out; have h1 := P1.out; have h2 := P2.out; simp; omega, HS.out⟩
      · by_cases h2 : 0 < (qs.length : Int)
        · have f0 : decide (4 ≤ k) = false := by first | (exact decide_eq_false (by omega)) | (simp; omega) | (simp [*]; done)
          have f1 : decide (k ≥ 4) = false := by first | (exact decide_eq_false (by omega)) | (simp; omega) | (simp [*]; done)
          have f2 : decide (k < 8) = false := by first | (exact decide_eq_false (by omega)) | (simp; omega) | (simp [*]; done)
          have f3 : decide (0 < (qs.length : Int)) = true := by first | (exact decide_eq_true (by omega)) | (simp; omega) | (simp [*]; done)
          have f4 : decide ((qs.length : Int) > 0) = true := by first | (exact decide_eq_true (by omega)) | (simp; omega) | (simp [*]; done)
          have P0 := Aside0.mk h0; clear h0
          have P1 := Aside0.mk h1; clear h1
          have P2 := Aside0.mk h2; clear h2
          go_wp2
          all_goals go_meet
          all_goals exact ⟨by have h0 := P0.out; have h1 := P1.out; have h2 := P2.out; simp; omega, HS.out⟩
        · have f0 : decide (4 ≤ k) = false := by first | (exact decide_eq_false (by omega)) | (simp; omega) | (simp [*]; done)
          have f1 : decide (k ≥ 4) = false := by first | (exact decide_eq_false (by omega)) | (simp; omega) | (simp [*]; done)
          have f2 : decide (k < 8) = false := by first | (exact decide_eq_false (by omega)) | (simp; omega) | (simp [*]; done)
          have f3 : decide (0 < (qs.length : Int)) = false := by first | (exact decide_eq_false (by omega)) | (simp; omega) | (simp [*]; done)
          have f4 : decide ((qs.length : Int) > 0) = false := by first | (exact decide_eq_false (by omega)) | (simp; omega) | (simp [*]; done)
          have P0 := Aside0.mk h0; clear h0
          have P1 := Aside0.mk h1; clear h1
          have P2 := Aside0.mk h2; clear h2
          go_wp2
          all_goals go_meet
          all_goals exact ⟨by have h0 := P0.out; have h1 := P1.out; have h2 := P2.out; simp; omega, HS.out⟩
  case rest =>
    rename World => w1
    obtain ⟨rfl, hs⟩ := hcut
    clear HS i1 i2
    have HS := Aside0.mk hs; clear hs
    go_upto_if 65 with fail
    go_cut [] from 8 (fun wx => ∃ v1, IQ w0 w X bi bo g A c bs sf ⟨vs, xf, rs⟩ v0 v1 v2 [] wx)
    case first =>
      unfold sp1 at HX
      by_cases hb : (4 ≤ k ∧ k < 8) ∧ 0 < (qs.length : Int)
      · rw [if_pos hb] at HX
        rw [show ((decide (4 ≤ k) && decide (k < 8)) && decide (0 < (qs.length : Int))) = true by simp; omega]
        have HB := Aside0.mk hb; clear hb
        obtain ⟨g3, cap3, hv, _⟩ := Kd.R_form HS.out.r1 (by have := HB.out; show 0 < qs.length; omega)
        simp only [Value.slice.injEq] at hv
        obtain ⟨rfl, _, rfl⟩ := hv
        obtain ⟨i1, i2⟩ := lay (Below.refl _ _) HS.out.inn
        go_wp2_with fail
        go_at_call 30
        refine (spec_below _ w0 g A c bs s qs.length (by have := HB.out; omega) (by have := HNL.out; omega) HS.out.fr.cur).mono ?_
        rintro e w2 ⟨rfl, ha⟩
        have H2 := Aside0.mk (HS.out.draw ha); clear ha HS i1 i2
        have HBD := Aside0.mk (belowD_bd bs qs.length s (by have := HB.out; omega) (by have := HNL.out; omega))
        generalize belowD bs qs.length s = r at HX H2 HBD ⊢
        obtain ⟨z, s2⟩ := r
        rw [bnd_mk] at HX
        obtain ⟨zn, hzn⟩ : ∃ zn : Nat, z = zn := ⟨z.toNat, by have := HBD.out; (try simp only at this); omega⟩
        subst hzn
        rw [Int.toNat_natCast] at HX
        have HZ := Aside0.mk (show zn < qs.length by have := HBD.out; (try simp only at *); omega)
        clear HBD
        obtain ⟨y, hy⟩ : ∃ y, qs.getD zn zQ = y := ⟨_, rfl⟩
        rw [hy] at HX
        have HY := Aside0.mk hy; clear hy
        have e1 : qs.set zn (spQ k y) = xf := congrArg Prod.fst HX.out
        have e2 : s2 = sf := congrArg Prod.snd HX.out
        subst e2
        have HE := Aside0.mk e1; clear e1 HX
        have HKK := Aside0.mk (show k = 4 ∨ k = 5 ∨ k = 6 ∨ k = 7 by have := HB.out; have := HKB.out; omega)
        clear HB
        obtain ⟨i1, i2⟩ := lay (Below.refl _ _) H2.out.inn
        obtain ⟨c0, c1, c2, c3, c4, c5, c6, c7, c8, c9, c10, c11⟩ := kReq_cells H2.out.r1 HZ.out HY.out
        rcases HKK.out with rfl | rfl | rfl | rfl
        · have H4 := Aside0.mk (H2.out.box (.cells #[.int .i64 (-1), .int .i64 y.tags, .int .i64 y.from_.x, .int .i64 y.from_.y, .int .i64 y.from_.o, .int .i64 y.from_.c, .int .i64 y.from_.h, .int .i64 y.to_.x, .int .i64 y.to_.y, .int .i64 y.to_.o, .int .i64 y.to_.c, .int .i64 y.to_.h] 48 (0, 0))).drop
          obtain ⟨j1, j2⟩ := lay (Below.refl _ _) H4.out.inn
          obtain ⟨w3, hrun, hr, hg⟩ := Kd.flat_seg_run (P := Tryz.prog) kReq rfl 48 (o' := zn * 12) zn 0 (.agg #[.int .i64 (-1), .int .i64 y.tags, .int .i64 y.from_.x, .int .i64 y.from_.y, .int .i64 y.from_.o, .int .i64 y.from_.c, .int .i64 y.from_.h, .int .i64 y.to_.x, .int .i64 y.to_.y, .int .i64 y.to_.o, .int .i64 y.to_.c, .int .i64 y.to_.h]) [.int .i64 (-1), .int .i64 y.tags, .int .i64 y.from_.x, .int .i64 y.from_.y, .int .i64 y.from_.o, .int .i64 y.from_.c, .int .i64 y.from_.h, .int .i64 y.to_.x, .int .i64 y.to_.y, .int .i64 y.to_.o, .int .i64 y.to_.c, .int .i64 y.to_.h] y (spQ 4 y) zQ _ rfl rfl (by kernel_rfl) (by intro q hq; simp only [List.mem_cons, List.not_mem_nil, or_false] at hq; rcases hq with rfl | rfl | rfl | rfl | rfl | rfl | rfl | rfl | rfl | rfl | rfl | rfl <;> rfl) H4.out.r1 HZ.out (by show 0 + 12 ≤ 12; decide) HY.out rfl
          have H5 := Aside0.mk (H4.out.put1 hr hg); have HRUN := Aside0.mk hrun; clear hr hg hrun H2 H4
          have hlz := HZ.out
          have hcm : 0 ≤ (zn : Int) ∧ (zn : Int) < (qs.length : Int) := by omega
          go_wp2_with ((with_reducible refine gate_store (t := 48) (p := 94) rfl ?_); refine wpList_store_run rfl rfl 48 _ _ rfl rfl rfl HRUN.out ?_; clear i1 i2 j1 j2 c0 c1 c2 c3 c4 c5 c6 c7 c8 c9 c10 c11)
          go_meet
          exact ⟨_, by rw [← HE.out]; exact H5.out⟩
        · have H4 := Aside0.mk (H2.out.box (.cells #[.int .i64 y.size, .int .i64 (-1), .int .i64 y.from_.x, .int .i64 y.from_.y, .int .i64 y.from_.o, .int .i64 y.from_.c, .int .i64 y.from_.h, .int .i64 y.to_.x, .int .i64 y.to_.y, .int .i64 y.to_.o, .int .i64 y.to_.c, .int .i64 y.to_.h] 48 (0, 0))).drop
          obtain ⟨j1, j2⟩ := lay (Below.refl _ _) H4.out.inn
          obtain ⟨w3, hrun, hr, hg⟩ := Kd.flat_seg_run (P := Tryz.prog) kReq rfl 48 (o' := zn * 12) zn 0 (.agg #[.int .i64 y.size, .int .i64 (-1), .int .i64 y.from_.x, .int .i64 y.from_.y, .int .i64 y.from_.o, .int .i64 y.from_.c, .int .i64 y.from_.h, .int .i64 y.to_.x, .int .i64 y.to_.y, .int .i64 y.to_.o, .int .i64 y.to_.c, .int .i64 y.to_.h]) [.int .i64 y.size, .int .i64 (-1), .int .i64 y.from_.x, .int .i64 y.from_.y, .int .i64 y.from_.o, .int .i64 y.from_.c, .int .i64 y.from_.h, .int .i64 y.to_.x, .int .i64 y.to_.y, .int .i64 y.to_.o, .int .i64 y.to_.c, .int .i64 y.to_.h] y (spQ 5 y) zQ _ rfl rfl (by kernel_rfl) (by intro q hq; simp only [List.mem_cons, List.not_mem_nil, or_false] at hq; rcases hq with rfl | rfl | rfl | rfl | rfl | rfl | rfl | rfl | rfl | rfl | rfl | rfl <;> rfl) H4.out.r1 HZ.out (by show 0 + 12 ≤ 12; decide) HY.out rfl
          have H5 := Aside0.mk (H4.out.put1 hr hg); have HRUN := Aside0.mk hrun; clear hr hg hrun H2 H4
          have hlz := HZ.out
          have hcm : 0 ≤ (zn : Int) ∧ (zn : Int) < (qs.length : Int) := by omega
          go_wp2_with ((with_reducible refine gate_store (t := 48) (p := 94) rfl ?_); refine wpList_store_run rfl rfl 48 _ _ rfl rfl rfl HRUN.out ?_; clear i1 i2 j1 j2 c0 c1 c2 c3 c4 c5 c6 c7 c8 c9 c10 c11)
          go_meet
          exact ⟨_, by rw [← HE.out]; exact H5.out⟩
        · have H4 := Aside0.mk (H2.out.box (.cells #[.int .i64 y.size, .int .i64 y.tags, .int .i64 y.from_.x, .int .i64 y.from_.y, .int .i64 y.from_.o, .int .i64 1000001, .int .i64 y.from_.h, .int .i64 y.to_.x, .int .i64 y.to_.y, .int .i64 y.to_.o, .int .i64 y.to_.c, .int .i64 y.to_.h] 48 (0, 0))).drop
          obtain ⟨j1, j2⟩ := lay (Below.refl _ _) H4.out.inn
          obtain ⟨w3, hrun, hr, hg⟩ := Kd.flat_seg_run (P := Tryz.prog) kReq rfl 48 (o' := zn * 12) zn 0 (.agg #[.int .i64 y.size, .int .i64 y.tags, .int .i64 y.from_.x, .int .i64 y.from_.y, .int .i64 y.from_.o, .int .i64 1000001, .int .i64 y.from_.h, .int .i64 y.to_.x, .int .i64 y.to_.y, .int .i64 y.to_.o, .int .i64 y.to_.c, .int .i64 y.to_.h]) [.int .i64 y.size, .int .i64 y.tags, .int .i64 y.from_.x, .int .i64 y.from_.y, .int .i64 y.from_.o, .int .i64 1000001, .int .i64 y.from_.h, .int .i64 y.to_.x, .int .i64 y.to_.y, .int .i64 y.to_.o, .int .i64 y.to_.c, .int .i64 y.to_.h] y (spQ 6 y) zQ _ rfl rfl (by kernel_rfl) (by intro q hq; simp only [List.mem_cons, List.not_mem_nil, or_false] at hq; rcases hq with rfl | rfl | rfl | rfl | rfl | rfl | rfl | rfl | rfl | rfl | rfl | rfl <;> rfl) H4.out.r1 HZ.out (by show 0 + 12 ≤ 12; decide) HY.out rfl
          have H5 := Aside0.mk (H4.out.put1 hr hg); have HRUN := Aside0.mk hrun; clear hr hg hrun H2 H4
          have hlz := HZ.out
          have hcm : 0 ≤ (zn : Int) ∧ (zn : Int) < (qs.length : Int) := by omega
          go_wp2_with ((with_reducible refine gate_store (t := 48) (p := 94) rfl ?_); refine wpList_store_run rfl rfl 48 _ _ rfl rfl rfl HRUN.out ?_; clear i1 i2 j1 j2 c0 c1 c2 c3 c4 c5 c6 c7 c8 c9 c10 c11)
          go_meet
          exact ⟨_, by rw [← HE.out]; exact H5.out⟩
        · have H4 := Aside0.mk (H2.out.box (.cells #[.int .i64 y.size, .int .i64 y.tags, .int .i64 y.from_.x, .int .i64 y.from_.y, .int .i64 y.from_.o, .int .i64 y.from_.c, .int .i64 y.from_.h, .int .i64 y.to_.x, .int .i64 y.to_.y, .int .i64 y.to_.o, .int .i64 y.to_.c, .int .i64 (-1)] 48 (0, 0))).drop
          obtain ⟨j1, j2⟩ := lay (Below.refl _ _) H4.out.inn
          obtain ⟨w3, hrun, hr, hg⟩ := Kd.flat_seg_run (P := Tryz.prog) kReq rfl 48 (o' := zn * 12) zn 0 (.agg #[.int .i64 y.size, .int .i64 y.tags, .int .i64 y.from_.x, .int .i64 y.from_.y, .int .i64 y.from_.o, .int .i64 y.from_.c, .int .i64 y.from_.h, .int .i64 y.to_.x, .int .i64 y.to_.y, .int .i64 y.to_.o, .int .i64 y.to_.c, .int .i64 (-1)]) [.int .i64 y.size, .int .i64 y.tags, .int .i64 y.from_.x, .int .i64 y.from_.y, .int .i64 y.from_.o, .int .i64 y.from_.c, .int .i64 y.from_.h, .int .i64 y.to_.x, .int .i64 y.to_.y, .int .i64 y.to_.o, .int .i64 y.to_.c, .int .i64 (-1)] y (spQ 7 y) zQ _ rfl rfl (by kernel_rfl) (by intro q hq; simp only [List.mem_cons, List.not_mem_nil, or_false] at hq; rcases hq with rfl | rfl | rfl | rfl | rfl | rfl | rfl | rfl | rfl | rfl | rfl | rfl <;> rfl) H4.out.r1 HZ.out (by show 0 + 12 ≤ 12; decide) HY.out rfl
          have H5 := Aside0.mk (H4.out.put1 hr hg); have HRUN := Aside0.mk hrun; clear hr hg hrun H2 H4
          have hlz := HZ.out
          have hcm : 0 ≤ (zn : Int) ∧ (zn : Int) < (qs.length : Int) := by omega
          go_wp2_with ((with_reducible refine gate_store (t := 48) (p := 94) rfl ?_); refine wpList_store_run rfl rfl 48 _ _ rfl rfl rfl HRUN.out ?_; clear i1 i2 j1 j2 c0 c1 c2 c3 c4 c5 c6 c7 c8 c9 c10 c11)
          go_meet
          exact ⟨_, by rw [← HE.out]; exact H5.out⟩
      · rw [if_neg hb] at HX
        rw [show ((decide (4 ≤ k) && decide (k < 8)) && decide (0 < (qs.length : Int))) = false from and_nd2 hb]
        have HB := Aside0.mk hb; clear hb
        have e1 : qs = xf := congrArg Prod.fst HX.out
        have e2 : s = sf := congrArg Prod.snd HX.out
        clear HX
        subst e1; subst e2
        go_wp2
        go_meet
        exact ⟨_, HS.out⟩
    case rest =>
      rename World => w2
      obtain ⟨v1', hs⟩ := hcut
      go_step
      exact spoil8 w w0 X bi bo g A c bs res k sf vs xf rs _ _ _ _ HKB.out HLB.out hs hv (by rw [hxl]; exact hq) HD.out
end
end Go.Proofs.YtbccaabaplbmhaaGreatDoor.L1
namespace Go.Proofs.YtbccaabaplbmhaaGreatDoor.L1
open Go.RowKit Go.Proofs.YtbccaabaplbmhaaGreatDoorW.PrintWords Go.Proofs.YtbccaabaplbmhaaGreatDoor.B
set_option linter.unusedVariables false
set_option linter.unusedSimpArgs false
attribute [local go_sem] mk_cell mk_frozen
theorem kVeh_cells {W : World} {e base g3 n cap ln : Nat} {ok : Nat → Prop} {xs : List Veh} {y : Veh} (h : kVeh.R e W base ok (.slice (some ⟨g3, 0, none⟩) n cap) xs) (hl : ln < xs.length) (hy : xs.getD ln zV = y) : W.cell? ⟨g3, ln * 7, none⟩ = some (.int .i64 y.room) ∧ W.cell? ⟨g3, ln * 7 + 1, none⟩ = some (.int .i64 y.skills) ∧ W.cell? ⟨g3, ln * 7 + 2, none⟩ = some (.int .i64 y.home.x) ∧ W.cell? ⟨g3, ln * 7 + 3, none⟩ = some (.int .i64 y.home.y) ∧ W.cell? ⟨g3, ln * 7 + 4, none⟩ = some (.int .i64 y.home.o) ∧ W.cell? ⟨g3, ln * 7 + 5, none⟩ = some (.int .i64 y.home.c) ∧ W.cell? ⟨g3, ln * 7 + 6, none⟩ = some (.int .i64 y.home.h) := by
  have hn := (Kd.R_reads' h).1
  subst hn
  obtain ⟨ad, e0, h0, h1⟩ := Kd.flat_cells (d := kVeh) rfl (Kd.R_reads' h).2.2 zV ln hl
  cases e0
  rw [hy] at h0 h1
  exact ⟨by (have h := h0 _ rfl; rw [Addr.add_lit, Nat.zero_add] at h; exact h), cell_shift (h1 0 _ rfl) rfl, cell_shift (h1 1 _ rfl) rfl, cell_shift (h1 2 _ rfl) rfl, cell_shift (h1 3 _ rfl) rfl, cell_shift (h1 4 _ rfl) rfl, cell_shift (h1 5 _ rfl) rfl⟩
theorem sp0_len (bs : List Int) (k : Int) (vs : List Veh) (s : Cu) : (sp0 bs k vs s).1.length = vs.length := by
  unfold sp0
  split
  · exact List.length_set ..
  · rfl
theorem and_nd {p q : Prop} [Decidable p] [Decidable q] (h : ¬ (p ∧ q)) : (decide p && decide q) = false := by
  cases hc : (decide p && decide q) with
  | false => rfl
  | true => simp only [Bool.and_eq_true, decide_eq_true_eq] at hc; exact absurd hc h
section
variable (w : World)
set_option maxRecDepth 1000000 in
set_option maxHeartbeats 16000000 in
theorem spoil0 (w0 : World) (X : List (Nat × Obj)) (bi bo : Nat) (g : Nat) (A : Option Addr) (c : Nat) (bs : List Int) (res : Inst × Cu) (k : Int) (s : Cu) (vs : List Veh) (qs : List Req) (rs : List Road) (v0 v1 v2 : Value) {t1 t2 t6 t7 t8 t9 t10 t11 t12 t13 t14 t15 t16 t17 t18 t19 t20 t21 t22 t23 t24 t25 t26 t27 t28 t29 t30 t31 t32 t33 t34 t35 t36 t37 t38 t39 t40 t41 t42 t43 t44 t45 t46 t47 t48 t49 t50 t51 t52 t53 t54 t55 t56 t57 t58 t59 t60 t61 t62 t63 t64 t65 t66 t67 t68 t69 t70 t71 t72 t73 t74 t75 t76 t77 t78 t79 t80 t81 t82 t83 t84 t85 t86 t87 t88 t89 t90 t91 t92 t93 t94 t95 t96 t97 t98 t99 t100 t101 t102 t103 t104 t105 t106 t107 t108 t109 t110 t111 t112 t113 t114 t115 t116 t117 t118 t119 t120 t121 t122 t123 t124 t125 t126 t127 t128 t129 t130 t131 t132 t133 t134 t135 t136 t137 t138 t139 t140 t141 t142 t143 t144 t145 t146 t147 t148 t149 t150 t151 : Value} (W : World) (hk : 0 ≤ k ∧ k < 12) (hl : rs.length ≤ 97) (hS : IQ w0 w X bi bo g A c bs s ⟨vs, qs, rs⟩ v0 v1 v2 [] W) (hv : vs.length ≤ 100) (hq : qs.length ≤ 100) (hD : (bnd (sp0 bs k vs s) fun vs s2 => bnd (sp1 bs k qs s2) fun qs s3 => ((⟨vs, qs, sp11 k (sp10 k (sp9 k ((vs.length : Int) + 2 * (qs.length : Int)) (sp8 k ((vs.length : Int) + 2 * (qs.length : Int)) rs)))⟩, s3) : Inst × Cu)) = res) : Code.wp Tryz.prog (sufAt 2 (Tryz.f34.body.getD .skip)) (bodyPost Tryz.prog Tryz.f34 (InstPostX w0 w X g A c bs res)) ⟨#[.pointer (some ⟨g, 0, none⟩), t1, t2, .pointer (some ⟨bi, 0, none⟩), .pointer (some ⟨bo, 0, none⟩), .int .i64 k, t6, t7, t8, t9, t10, t11, t12, t13, t14, t15, t16, t17, t18, t19, t20, t21, t22, t23, t24, t25, t26, t27, t28, t29, t30, t31, t32, t33, t34, t35, t36, t37, t38, t39, t40, t41, t42, t43, t44, t45, t46, t47, t48, t49, t50, t51, t52, t53, t54, t55, t56, t57, t58, t59, t60, t61, t62, t63, t64, t65, t66, t67, t68, t69, t70, t71, t72, t73, t74, t75, t76, t77, t78, t79, t80, t81, t82, t83, t84, t85, t86, t87, t88, t89, t90, t91, t92, t93, t94, t95, t96, t97, t98, t99, t100, t101, t102, t103, t104, t105, t106, t107, t108, t109, t110, t111, t112, t113, t114, t115, t116, t117, t118, t119, t120, t121, t122, t123, t124, t125, t126, t127, t128, t129, t130, t131, t132, t133, t134, t135, t136, t137, t138, t139, t140, t141, t142, t143, t144, t145, t146, t147, t148, t149, t150, t151], []⟩ W := by
  have HS := Aside0.mk hS; have HD := Aside0.mk hD; have HKB := Aside0.mk hk; have HLB := Aside0.mk hl; clear hS hD hk hl
  have HNL := Aside0.mk hv
  obtain ⟨xf, sf, hx, hxl⟩ : ∃ xf sf, sp0 bs k vs s = (xf, sf) ∧ xf.length = vs.length := ⟨_, _, rfl, sp0_len bs k vs s⟩
  rw [hx, bnd_mk] at HD
  have HX := Aside0.mk hx; clear hx
  conv => arg 2; whnf
  dsimp only
  obtain ⟨A0, c0, rfl⟩ := Kd.R_slice HS.out.r0
  obtain ⟨i1, i2⟩ := lay (Below.refl _ _) HS.out.inn
  go_upto_region 2 with fail
  go_cut [20] from 6 (fun vb wx => vb = .bool (decide (k < 4) && decide (0 < (vs.length : Int))) ∧ IQ w0 w X bi bo g A c bs s ⟨vs, qs, rs⟩ (.slice A0 vs.length c0) v1 v2 [] wx)
  case first =>
    by_cases h0 : k < 4
    · by_cases h1 : 0 < (vs.length : Int)
      · have f0 : decide (k < 4) = true := by first | (exact decide_eq_true (by omega)) | (simp; omega) | (simp [*]; done)
        have f1 : decide (0 < (vs.length : Int)) = true := by first | (exact decide_eq_true (by omega)) | (simp; omega) | (simp [*]; done)
        have f2 : decide ((vs.length : Int) > 0) = true := by first | (exact decide_eq_true (by omega)) | (simp; omega) | (simp [*]; done)
        have P0 := Aside0.mk h0; clear h0
        have P1 := Aside0.mk h1; clear h1
        go_wp2
        all_goals go_meet
        all_goals exact ⟨by have h0 := P0.out; have h1 := P1.out; simp; omega, HS.out⟩
      · have f0 : decide (k < 4) = true := by first | (exact decide_eq_true (by omega)) | (simp; omega) | (simp [*]; done)
        have f1 : decide (0 < (vs.length : Int)) = false := by first | (exact decide_eq_false (by omega)) | (simp; omega) | (simp [*]; done)
        have f2 : decide ((vs.length : Int) > 0) = false := by first | (exact decide_eq_false (by omega)) | (simp; omega) | (simp [*]; done)
        have P0 := Aside0.mk h0; clear h0
        have P1 := Aside0.mk h1; clear h1
        go_wp2
        all_goals go_meet
        all_goals exact ⟨by have h0 := P0.out; have h1 := P1.out; simp; omega, HS.out⟩
    · by_cases h1 : 0 < (vs.length : Int)
      · have f0 : decide (k < 4) = false := by first | (exact decide_eq_false (by omega)) | (simp; omega) | (simp [*]; done)
        have f1 : decide (0 < (vs.length : Int)) = true := by first | (exact decide_eq_true (by omega)) | (simp; omega) | (simp [*]; done)
        have f2 : decide ((vs.length : Int) > 0) = true := by first | (exact decide_eq_true (by omega)) | (simp; omega) | (simp [*]; done)
        have P0 := Aside0.mk h0; clear h0
        have P1 := Aside0.mk h1; clear h1
        go_wp2
        all_goals go_meet
        all_goals exact ⟨by have h0 := P0.out; have h1 := P1.out; simp; omega, HS.out⟩
      · have f0 : decide (k < 4) = false := by first | (exact decide_eq_false (by omega)) | (simp; omega) | (simp [*]; done)
        have f1 : decide (0 < (vs.length : Int)) = false := by first | (exact decide_eq_false (by omega)) | (simp; omega) | (simp [*]; done)
        have f2 : decide ((vs.length : Int) > 0) = false := by first | (exact decide_eq_false (by omega)) | (simp; omega) | (simp [*]; done)
        have P0 := Aside0.mk h0; clear h0
        have P1 := Aside0.mk h1; clear h1
        go_wp2
        all_goals go_meet
        all_goals exact ⟨by have h0 := P0.out; have h1 := P1.out; simp; omega, HS.out⟩
  case rest =>
    rename World => w1
    obtain ⟨rfl, hs⟩ := hcut
    clear HS i1 i2
    have HS := Aside0.mk hs; clear hs
    go_upto_if 20 with fail
    go_cut [] from 6 (fun wx => ∃ v0, IQ w0 w X bi bo g A c bs sf ⟨xf, qs, rs⟩ v0 v1 v2 [] wx)
    case first =>
      unfold sp0 at HX
      by_cases hb : k < 4 ∧ 0 < (vs.length : Int)
      · rw [if_pos hb] at HX
        rw [show (decide (k < 4) && decide (0 < (vs.length : Int))) = true by simp; omega]
        have HB := Aside0.mk hb; clear hb
        obtain ⟨g3, cap3, hv, _⟩ := Kd.R_form HS.out.r0 (by have := HB.out; show 0 < vs.length; omega)
        simp only [Value.slice.injEq] at hv
        obtain ⟨rfl, _, rfl⟩ := hv
        obtain ⟨i1, i2⟩ := lay (Below.refl _ _) HS.out.inn
        go_wp2_with fail
        go_at_call 30
        refine (spec_below _ w0 g A c bs s vs.length (by have := HB.out; omega) (by have := HNL.out; omega) HS.out.fr.cur).mono ?_
        rintro e w2 ⟨rfl, ha⟩
        have H2 := Aside0.mk (HS.out.draw ha); clear ha HS i1 i2
        have HBD := Aside0.mk (belowD_bd bs vs.length s (by have := HB.out; omega) (by have := HNL.out; omega))
        generalize belowD bs vs.length s = r at HX H2 HBD ⊢
        obtain ⟨z, s2⟩ := r
        rw [bnd_mk] at HX
        obtain ⟨zn, hzn⟩ : ∃ zn : Nat, z = zn := ⟨z.toNat, by have := HBD.out; (try simp only at this); omega⟩
        subst hzn
        rw [Int.toNat_natCast] at HX
        have HZ := Aside0.mk (show zn < vs.length by have := HBD.out; (try simp only at *); omega)
        clear HBD
        obtain ⟨y, hy⟩ : ∃ y, vs.getD zn zV = y := ⟨_, rfl⟩
        rw [hy] at HX
        have HY := Aside0.mk hy; clear hy
        have e1 : vs.set zn (spV k y) = xf := congrArg Prod.fst HX.out
        have e2 : s2 = sf := congrArg Prod.snd HX.out
        subst e2
        have HE := Aside0.mk e1; clear e1 HX
        have HKK := Aside0.mk (show k = 0 ∨ k = 1 ∨ k = 2 ∨ k = 3 by have := HB.out; have := HKB.out; omega)
        clear HB
        obtain ⟨i1, i2⟩ := lay (Below.refl _ _) H2.out.inn
        obtain ⟨c0, c1, c2, c3, c4, c5, c6⟩ := kVeh_cells H2.out.r0 HZ.out HY.out
        rcases HKK.out with rfl | rfl | rfl | rfl
        · have H4 := Aside0.mk (H2.out.box (.cells #[.int .i64 1000001, .int .i64 y.skills, .int .i64 y.home.x, .int .i64 y.home.y, .int .i64 y.home.o, .int .i64 y.home.c, .int .i64 y.home.h] 45 (0, 0))).drop
          obtain ⟨j1, j2⟩ := lay (Below.refl _ _) H4.out.inn
          obtain ⟨w3, hrun, hr, hg⟩ := Kd.flat_seg_run (P := Tryz.prog) kVeh rfl 45 (o' := zn * 7) zn 0 (.agg #[.int .i64 1000001, .int .i64 y.skills, .int .i64 y.home.x, .int .i64 y.home.y, .int .i64 y.home.o, .int .i64 y.home.c, .int .i64 y.home.h]) [.int .i64 1000001, .int .i64 y.skills, .int .i64 y.home.x, .int .i64 y.home.y, .int .i64 y.home.o, .int .i64 y.home.c, .int .i64 y.home.h] y (spV 0 y) zV _ rfl rfl (by kernel_rfl) (by intro q hq; simp only [List.mem_cons, List.not_mem_nil, or_false] at hq; rcases hq with rfl | rfl | rfl | rfl | rfl | rfl | rfl <;> rfl) H4.out.r0 HZ.out (by show 0 + 7 ≤ 7; decide) HY.out rfl
          have H5 := Aside0.mk (H4.out.put0 hr hg); have HRUN := Aside0.mk hrun; clear hr hg hrun H2 H4
          have hlz := HZ.out
          have hcm : 0 ≤ (zn : Int) ∧ (zn : Int) < (vs.length : Int) := by omega
          go_wp2_with ((with_reducible refine gate_store (t := 45) (p := 53) rfl ?_); refine wpList_store_run rfl rfl 45 _ _ rfl rfl rfl HRUN.out ?_; clear i1 i2 j1 j2 c0 c1 c2 c3 c4 c5 c6)
          go_meet
          exact ⟨_, by rw [← HE.out]; exact H5.out⟩
        · have H4 := Aside0.mk (H2.out.box (.cells #[.int .i64 y.room, .int .i64 65536, .int .i64 y.home.x, .int .i64 y.home.y, .int .i64 y.home.o, .int .i64 y.home.c, .int .i64 y.home.h] 45 (0, 0))).drop
          obtain ⟨j1, j2⟩ := lay (Below.refl _ _) H4.out.inn
          obtain ⟨w3, hrun, hr, hg⟩ := Kd.flat_seg_run (P := Tryz.prog) kVeh rfl 45 (o' := zn * 7) zn 0 (.agg #[.int .i64 y.room, .int .i64 65536, .int .i64 y.home.x, .int .i64 y.home.y, .int .i64 y.home.o, .int .i64 y.home.c, .int .i64 y.home.h]) [.int .i64 y.room, .int .i64 65536, .int .i64 y.home.x, .int .i64 y.home.y, .int .i64 y.home.o, .int .i64 y.home.c, .int .i64 y.home.h] y (spV 1 y) zV _ rfl rfl (by kernel_rfl) (by intro q hq; simp only [List.mem_cons, List.not_mem_nil, or_false] at hq; rcases hq with rfl | rfl | rfl | rfl | rfl | rfl | rfl <;> rfl) H4.out.r0 HZ.out (by show 0 + 7 ≤ 7; decide) HY.out rfl
          have H5 := Aside0.mk (H4.out.put0 hr hg); have HRUN := Aside0.mk hrun; clear hr hg hrun H2 H4
          have hlz := HZ.out
          have hcm : 0 ≤ (zn : Int) ∧ (zn : Int) < (vs.length : Int) := by omega
          go_wp2_with ((with_reducible refine gate_store (t := 45) (p := 53) rfl ?_); refine wpList_store_run rfl rfl 45 _ _ rfl rfl rfl HRUN.out ?_; clear i1 i2 j1 j2 c0 c1 c2 c3 c4 c5 c6)
          go_meet
          exact ⟨_, by rw [← HE.out]; exact H5.out⟩
        · have H4 := Aside0.mk (H2.out.box (.cells #[.int .i64 y.room, .int .i64 y.skills, .int .i64 y.home.x, .int .i64 y.home.y, .int .i64 (wrap64 (y.home.c + 1)), .int .i64 y.home.c, .int .i64 y.home.h] 45 (0, 0))).drop
          obtain ⟨j1, j2⟩ := lay (Below.refl _ _) H4.out.inn
          obtain ⟨w3, hrun, hr, hg⟩ := Kd.flat_seg_run (P := Tryz.prog) kVeh rfl 45 (o' := zn * 7) zn 0 (.agg #[.int .i64 y.room, .int .i64 y.skills, .int .i64 y.home.x, .int .i64 y.home.y, .int .i64 (wrap64 (y.home.c + 1)), .int .i64 y.home.c, .int .i64 y.home.h]) [.int .i64 y.room, .int .i64 y.skills, .int .i64 y.home.x, .int .i64 y.home.y, .int .i64 (wrap64 (y.home.c + 1)), .int .i64 y.home.c, .int .i64 y.home.h] y (spV 2 y) zV _ rfl rfl (by kernel_rfl) (by intro q hq; simp only [List.mem_cons, List.not_mem_nil, or_false] at hq; rcases hq with rfl | rfl | rfl | rfl | rfl | rfl | rfl <;> rfl) H4.out.r0 HZ.out (by show 0 + 7 ≤ 7; decide) HY.out rfl
          have H5 := Aside0.mk (H4.out.put0 hr hg); have HRUN := Aside0.mk hrun; clear hr hg hrun H2 H4
          have hlz := HZ.out
          have hcm : 0 ≤ (zn : Int) ∧ (zn : Int) < (vs.length : Int) := by omega
          go_wp2_with ((with_reducible refine gate_store (t := 45) (p := 53) rfl ?_); refine wpList_store_run rfl rfl 45 _ _ rfl rfl rfl HRUN.out ?_; clear i1 i2 j1 j2 c0 c1 c2 c3 c4 c5 c6)
          go_meet
          exact ⟨_, by rw [← HE.out]; exact H5.out⟩
        · have H4 := Aside0.mk (H2.out.box (.cells #[.int .i64 y.room, .int .i64 y.skills, .int .i64 10001, .int .i64 y.home.y, .int .i64 y.home.o, .int .i64 y.home.c, .int .i64 y.home.h] 45 (0, 0))).drop
          obtain ⟨j1, j2⟩ := lay (Below.refl _ _) H4.out.inn
          obtain ⟨w3, hrun, hr, hg⟩ := Kd.flat_seg_run (P := Tryz.prog) kVeh rfl 45 (o' := zn * 7) zn 0 (.agg #[.int .i64 y.room, .int .i64 y.skills, .int .i64 10001, .int .i64 y.home.y, .int .i64 y.home.o, .int .i64 y.home.c, .int .i64 y.home.h]) [.int .i64 y.room, .int .i64 y.skills, .int .i64 10001, .int .i64 y.home.y, .int .i64 y.home.o, .int .i64 y.home.c, .int .i64 y.home.h] y (spV 3 y) zV _ rfl rfl (by kernel_rfl) (by intro q hq; simp only [List.mem_cons, List.not_mem_nil, or_false] at hq; rcases hq with rfl | rfl | rfl | rfl | rfl | rfl | rfl <;> rfl) H4.out.r0 HZ.out (by show 0 + 7 ≤ 7; decide) HY.out rfl
          have H5 := Aside0.mk (H4.out.put0 hr hg); have HRUN := Aside0.mk hrun; clear hr hg hrun H2 H4
          have hlz := HZ.out
          have hcm : 0 ≤ (zn : Int) ∧ (zn : Int) < (vs.length : Int) := by omega
          go_wp2_with ((with_reducible refine gate_store (t := 45) (p := 53) rfl ?_); refine wpList_store_run rfl rfl 45 _ _ rfl rfl rfl HRUN.out ?_; clear i1 i2 j1 j2 c0 c1 c2 c3 c4 c5 c6)
          go_meet
          exact ⟨_, by rw [← HE.out]; exact H5.out⟩
      · rw [if_neg hb] at HX
        rw [show (decide (k < 4) && decide (0 < (vs.length : Int))) = false from and_nd hb]
        have HB := Aside0.mk hb; clear hb
        have e1 : vs = xf := congrArg Prod.fst HX.out
        have e2 : s = sf := congrArg Prod.snd HX.out
        clear HX
        subst e1; subst e2
        go_wp2
        go_meet
        exact ⟨_, HS.out⟩
    case rest =>
      rename World => w2
      obtain ⟨v0', hs⟩ := hcut
      go_step
      exact spoil1 w w0 X bi bo g A c bs res k sf xf qs rs _ _ _ _ HKB.out HLB.out hs (by rw [hxl]; exact hv) hq HD.out
end
end Go.Proofs.YtbccaabaplbmhaaGreatDoor.L1
namespace Go.Proofs.YtbccaabaplbmhaaGreatDoor.L1
open Go.RowKit Go.Proofs.YtbccaabaplbmhaaGreatDoorW.PrintWords Go.Proofs.YtbccaabaplbmhaaGreatDoor.B
set_option linter.unusedVariables false
set_option linter.unusedSimpArgs false
attribute [local go_sem] mk_cell mk_frozen
section
variable (w : World)
set_option maxRecDepth 1000000 in
set_option maxHeartbeats 16000000 in
theorem spec_spoil (w0 wB : World) (X : List (Nat × Obj)) (g : Nat) (A : Option Addr) (c : Nat) (bs : List Int) (s : Cu) (x : Inst) (v0 v1 v2 : Value) (hc : CurAt w0 g A c bs s w) (ht : Tch (fun k => k = g) wB w) (hg : g < wB.heap.size) (hl : w0.heap.size ≤ wB.heap.size) (r0 : kVeh.R 45 w wB.heap.size (fun _ => True) v0 x.vs) (r1 : kReq.R 48 w wB.heap.size (fun _ => True) v1 x.qs) (r2 : kRoad.R 51 w wB.heap.size (fun _ => True) v2 x.rs)
    (hx : ∀ p ∈ X, ∃ cs, p.2 = .cells cs 27 (0, 0)) (hb : ∀ p ∈ X, w.heap[p.1]? = some p.2) (ho : ∀ p ∈ X, wB.heap.size ≤ p.1) (hn : X.Pairwise fun p q => p.1 ≠ q.1) (n0 : x.vs.length ≤ 100) (n1 : x.qs.length ≤ 100) (n2 : x.rs.length ≤ 97) :
    Calls Tryz.prog 34 #[.pointer (some ⟨g, 0, none⟩), .agg #[v0, v1, v2]] w (InstPostX w0 wB X g A c bs (spoilD bs x s)) := by
  have HS := Aside0.mk (IQ.start rfl hc ht hg hl r0 r1 r2 hx hb ho hn)
  have HB12 := Aside0.mk (belowD_bd bs 12 s (by decide) (by decide))
  have HN := Aside0.mk (And.intro n0 (And.intro n1 n2))
  obtain ⟨A0, c0, rfl⟩ := Kd.R_slice r0
  obtain ⟨A1, c1, rfl⟩ := Kd.R_slice r1
  obtain ⟨A2, c2, rfl⟩ := Kd.R_slice r2
  obtain ⟨res, hres⟩ : ∃ res, spoilD bs x s = res := ⟨_, rfl⟩
  rw [hres]
  unfold spoilD at hres
  generalize hk : belowD bs 12 s = r at hres HB12
  obtain ⟨k, s1⟩ := r
  rw [bnd_mk] at hres
  have HD := Aside0.mk hres; have HK := Aside0.mk hk; clear hres hk hc ht hg hl r0 r1 r2 hx hb ho hn n0 n1 n2
  go_enter Tryz.func34, Tryz.ntmps34
  go_upto_region 1 with fail
  go_cut [5] from 6 (fun v5 wx => v5 = .int .i64 k ∧ IQ w0 wB X w.heap.size (w.heap.size + 1) g A c bs s1 x (.slice A0 x.vs.length c0) (.slice A1 x.qs.length c1) (.slice A2 x.rs.length c2) [] wx)
  case first =>
    go_wp2_with fail
    go_at_call 30
    refine (spec_below _ w0 g A c bs s 12 (by decide) (by decide) HS.out.fr.cur).mono ?_
    rintro e w1 ⟨rfl, ha⟩
    rw [HK.out] at ha ⊢
    have H1 := Aside0.mk (HS.out.draw ha); clear ha HS
    go_wp2
    go_meet
    exact ⟨rfl, H1.out⟩
  case rest =>
    rename World => w1
    obtain ⟨rfl, hs⟩ := hcut
    go_step
    exact spoil0 wB w0 X w.heap.size (w.heap.size + 1) g A c bs res k s1 x.vs x.qs x.rs _ _ _ _ HB12.out HN.out.2.2 hs HN.out.1 HN.out.2.1 HD.out
end
/-- An instance, spoilt now and then. -/
def maybeD (bs : List Int) (x : Inst) (s : Cu) : Inst × Cu := bnd (onceD bs 6 s) fun b s1 => if b = true then spoilD bs x s1 else (x, s1)
section
variable (w : World)
set_option maxRecDepth 1000000 in
set_option maxHeartbeats 16000000 in
theorem spec_maybe (w0 wB : World) (g : Nat) (A : Option Addr) (c : Nat) (bs : List Int) (s : Cu) (x : Inst) (v0 v1 v2 : Value) (hc : CurAt w0 g A c bs s w) (ht : Tch (fun k => k = g) wB w) (hg : g < wB.heap.size) (hl : w0.heap.size ≤ wB.heap.size) (r0 : kVeh.R 45 w wB.heap.size (fun _ => True) v0 x.vs) (r1 : kReq.R 48 w wB.heap.size (fun _ => True) v1 x.qs) (r2 : kRoad.R 51 w wB.heap.size (fun _ => True) v2 x.rs)
    (n0 : x.vs.length ≤ 100) (n1 : x.qs.length ≤ 100) (n2 : x.rs.length ≤ 97) :
    Calls Tryz.prog 12 #[.pointer (some ⟨g, 0, none⟩), .agg #[v0, v1, v2]] w (InstPost w0 wB g A c bs (maybeD bs x s)) := by
  have HS := Aside0.mk (IQ.start rfl hc ht hg hl r0 r1 r2 (X := []) (by simp) (by simp) (by simp) List.Pairwise.nil)
  have HN := Aside0.mk (And.intro n0 (And.intro n1 n2))
  obtain ⟨A0, c0, rfl⟩ := Kd.R_slice r0
  obtain ⟨A1, c1, rfl⟩ := Kd.R_slice r1
  obtain ⟨A2, c2, rfl⟩ := Kd.R_slice r2
  obtain ⟨res, hres⟩ : ∃ res, maybeD bs x s = res := ⟨_, rfl⟩
  rw [hres]
  unfold maybeD at hres
  have HD := Aside0.mk hres
  have HLE := Aside0.mk (And.intro ht.size (And.intro hg hl))
  clear hres hc ht hg hl r0 r1 r2 n0 n1 n2
  go_enter Tryz.func12, Tryz.ntmps12
  go_wp2_with fail
  go_at_call 29
  refine (spec_once _ w0 g A c bs s 6 (by decide) (by decide) HS.out.fr.cur).mono ?_
  rintro e w1 ⟨rfl, ha⟩
  have H1 := Aside0.mk (HS.out.draw ha); clear ha HS
  generalize onceD bs 6 s = r at HD H1 ⊢
  obtain ⟨b, s1⟩ := r
  rw [bnd_mk] at HD
  obtain ⟨i1, i2⟩ := lay (Below.refl _ _) H1.out.inn
  obtain ⟨o1, o2⟩ := lay (Below.refl _ _) H1.out.out
  cases b
  · have e : (x, s1) = res := HD.out
    subst e
    go_wp2
    clear i1 i2 o1 o2
    obtain ⟨hz, ha, r0, r1, r2, hx⟩ := H1.out.ends (.slice A0 x.vs.length c0) (.slice A1 x.qs.length c1) (.slice A2 x.rs.length c2)
    exact bodyPost_ret (results_cell Tryz.results12 rfl hz Tryz.underlying27 rfl (by kernel_rfl)) rfl ⟨_, _, _, rfl, ha, r0, r1, r2⟩
  · have e : spoilD bs x s1 = res := HD.out
    clear HD
    go_wp2_with fail
    go_at_call 34
    refine (spec_spoil _ w0 wB [(w.heap.size + 1, .cells #[.slice none 0 0, .slice none 0 0, .slice none 0 0] 27 (0, 0))] g A c bs s1 x _ _ _ H1.out.fr.cur H1.out.fr.tch HLE.out.2.1 HLE.out.2.2 (Kd.R_mono H1.out.r0 (fun _ _ => trivial)) (Kd.R_mono H1.out.r1 (fun _ _ => trivial)) (Kd.R_mono H1.out.r2 (fun _ _ => trivial)) (by intro p hp; rw [List.mem_singleton] at hp; subst hp; exact ⟨_, rfl⟩) (by intro p hp; rw [List.mem_singleton] at hp; subst hp; exact H1.out.out) (by intro p hp; rw [List.mem_singleton] at hp; subst hp; have := HLE.out.1; show _ ≤ w.heap.size + 1; omega) (List.pairwise_singleton _ _) HN.out.1 HN.out.2.1 HN.out.2.2).mono ?_
    rintro e w2 ⟨⟨u0, u1, u2, rfl, ha, q0, q1, q2⟩, hX⟩
    rw [e] at ha q0 q1 q2
    have HO := Aside0.mk (hX _ (List.mem_singleton.2 rfl)); clear hX
    have hb : wB.heap.size ≤ w.heap.size + 1 := by have := HLE.out.1; omega
    obtain ⟨B0, d0, rfl⟩ := Kd.R_slice q0
    obtain ⟨B1, d1, rfl⟩ := Kd.R_slice q1
    obtain ⟨B2, d2, rfl⟩ := Kd.R_slice q2
    clear i1 i2 o1 o2 H1 e
    have H2 := Aside0.mk (show Fr w0 wB g A c bs res.2 [(w.heap.size + 1, .cells #[.slice none 0 0, .slice none 0 0, .slice none 0 0] 27 (0, 0))] w2 from ⟨ha.1, ha.2, by intro p hp; rw [List.mem_singleton] at hp; subst hp; exact HO.out, by intro p hp; rw [List.mem_singleton] at hp; subst hp; exact hb, List.pairwise_singleton _ _, HLE.out.2.1, HLE.out.2.2⟩)
    have HQ := Aside0.mk (And.intro q0 (And.intro q1 q2)); clear ha q0 q1 q2 hb
    obtain ⟨o1, o2⟩ := lay (Below.refl _ _) HO.out
    go_wp2
    clear o1 o2
    have hn : g ≠ w.heap.size + 1 := by have := HLE.out; omega
    have hb : wB.heap.size ≤ w.heap.size + 1 := by have := HLE.out.1; omega
    have hlb : w0.heap.size ≤ w.heap.size + 1 := by have := HLE.out; omega
    have hT : Tch (fun k => k = w.heap.size + 1) w2 (((w2.setCell ⟨w.heap.size + 1, 0, none⟩ (.slice B0 res.1.vs.length d0)).setCell ⟨w.heap.size + 1, 1, none⟩ (.slice B1 res.1.qs.length d1)).setCell ⟨w.heap.size + 1, 2, none⟩ (.slice B2 res.1.rs.length d2)) := ((Tch.set (S := fun k => k = w.heap.size + 1) rfl).trans (Tch.set rfl)).trans (Tch.set rfl)
    exact bodyPost_ret (results_cell Tryz.results12 rfl (set3h HO.out _ _ _) Tryz.underlying27 rfl (by kernel_rfl)) rfl ⟨_, _, _, rfl, ⟨((H2.out.cur.put hn hlb _).put hn hlb _).put hn hlb _, ((H2.out.tch.fresh hb).fresh hb).fresh hb⟩, R_tch HQ.out.1 hT HO.out (by decide), R_tch HQ.out.2.1 hT HO.out (by decide), R_tch HQ.out.2.2 hT HO.out (by decide)⟩
end
end Go.Proofs.YtbccaabaplbmhaaGreatDoor.L1
