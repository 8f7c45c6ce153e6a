/- The reference's draws: an instance, walked: the code behind a statement. The reference's draws: an instance, walked: the end. The reference's draws: an instance, walked: a request at its limits. The reference's draws: an instance, walked: a vehicle at its limits. The reference's draws: an instance, walked: its roads. The reference's draws: an instance, walked: its requests. -/
import Derived.Test.YtbccaabaplbmhaaGreatDoorQT9
namespace Go.Proofs.YtbccaabaplbmhaaGreatDoor.L1
open Go.RowKit Go.Proofs.YtbccaabaplbmhaaGreatDoorW.PrintWords Go.Proofs.YtbccaabaplbmhaaGreatDoor.B
set_option linter.unusedVariables false
set_option linter.unusedSimpArgs false
attribute [local go_sem] mk_cell mk_frozen
/-- What an instance's draw leaves. -/
def InstPost (w0 w : World) (g : Nat) (A : Option Addr) (c : Nat) (bs : List Int) (res : Inst × Cu) (e : Ending) (w' : World) : Prop := ∃ v0 v1 v2, e = .returned (.agg #[v0, v1, v2]) ∧ After w0 g A c bs res.2 w w' ∧ kVeh.R 45 w' w.heap.size (fun _ => True) v0 res.1.vs ∧ kReq.R 48 w' w.heap.size (fun _ => True) v1 res.1.qs ∧ kRoad.R 51 w' w.heap.size (fun _ => True) v2 res.1.rs
def hasR (n : Nat) : Code → Bool
  | .region i _ _ => i == n
  | .seq a b => hasR n a || hasR n b
  | .cond _ a b => hasR n a || hasR n b
  | .block _ b => hasR n b
  | .loop b => hasR n b
  | .scope b => hasR n b
  | _ => false
/-- The code from the statement on that holds region n. -/
noncomputable def sufAt (n : Nat) : Code → Code
  | .seq a b => if hasR n a = true then .seq a b else sufAt n b
  | c => c
theorem IP.start {w0 w : World} {g : Nat} {A : Option Addr} {c : Nat} {bs : List Int} {s : Cu} (hc : CurAt w0 g A c bs s w) : IP w0 w g A c bs s ⟨[], [], []⟩ (.slice none 0 0) (.slice none 0 0) (.slice none 0 0) [] ((w.alloc (.cells #[.slice none 0 0, .slice none 0 0, .slice none 0 0] 27)).alloc (.cells #[.slice none 0 0, .slice none 0 0, .slice none 0 0] 27)) := by
  have h := ((Fr.start hc).box (.cells #[.slice none 0 0, .slice none 0 0, .slice none 0 0] 27 (0, 0))).box (.cells #[.slice none 0 0, .slice none 0 0, .slice none 0 0] 27 (0, 0))
  simp only [al_size] at h
  exact ⟨h, Kd.R_nil _ _ _ _ _, Kd.R_nil _ _ _ _ _, Kd.R_nil _ _ _ _ _⟩
theorem manyD_succ {α : Type} (f : Cu → α × Cu) (n : Nat) (l : List α) (s : Cu) : manyD f (n + 1) l s = bnd (f s) fun v s' => manyD f n (l ++ [v]) s' := rfl
theorem bnd_bnd {α β γ : Type} (r : α × Cu) (f : α → Cu → β × Cu) (h : β → Cu → γ) : bnd (bnd r f) h = bnd r fun x s => bnd (f x s) h := rfl
theorem cell_shift {W : World} {g k o o' : Nat} {v : Value} (h : W.cell? ⟨(Addr.add ⟨g, 0, none⟩ k).block, (Addr.add ⟨g, 0, none⟩ k).off + o, none⟩ = some v) (ho : k + o = o') : W.cell? ⟨g, o', none⟩ = some v := by
  rw [Addr.add_lit, Nat.zero_add] at h
  rw [← ho]
  exact h
theorem set3h {W : World} {g : Nat} {T : TypeId} {a b c : Value} (h : W.heap[g]? = some (.cells #[a, b, c] T (0, 0))) (v0 v1 v2 : Value) :
    (((W.setCell ⟨g, 0, none⟩ v0).setCell ⟨g, 1, none⟩ v1).setCell ⟨g, 2, none⟩ v2).heap[g]? = some (.cells #[v0, v1, v2] T (0, 0)) :=
  blk_set (blk_set (blk_set h 0 v0) 1 v1) 2 v2
theorem IP.ends {w0 w W : World} {g : Nat} {A : Option Addr} {c : Nat} {bs : List Int} {s : Cu} {x : Inst} {v0 v1 v2 : Value} (h : IP w0 w g A c bs s x v0 v1 v2 [] W) (a0 a1 a2 : Value) :
    (((W.setCell ⟨w.heap.size, 0, none⟩ a0).setCell ⟨w.heap.size, 1, none⟩ a1).setCell ⟨w.heap.size, 2, none⟩ a2).heap[w.heap.size]? = some (.cells #[a0, a1, a2] 27 (0, 0)) ∧
    After w0 g A c bs s w (((W.setCell ⟨w.heap.size, 0, none⟩ a0).setCell ⟨w.heap.size, 1, none⟩ a1).setCell ⟨w.heap.size, 2, none⟩ a2) ∧
    kVeh.R 45 (((W.setCell ⟨w.heap.size, 0, none⟩ a0).setCell ⟨w.heap.size, 1, none⟩ a1).setCell ⟨w.heap.size, 2, none⟩ a2) w.heap.size (fun _ => True) v0 x.vs ∧
    kReq.R 48 (((W.setCell ⟨w.heap.size, 0, none⟩ a0).setCell ⟨w.heap.size, 1, none⟩ a1).setCell ⟨w.heap.size, 2, none⟩ a2) w.heap.size (fun _ => True) v1 x.qs ∧
    kRoad.R 51 (((W.setCell ⟨w.heap.size, 0, none⟩ a0).setCell ⟨w.heap.size, 1, none⟩ a1).setCell ⟨w.heap.size, 2, none⟩ a2) w.heap.size (fun _ => True) v2 x.rs := by
  have hn : g ≠ w.heap.size := by have := h.fr.lt; omega
  have hl := h.fr.le
  have ht : Tch (fun k => k = w.heap.size) W (((W.setCell ⟨w.heap.size, 0, none⟩ a0).setCell ⟨w.heap.size, 1, none⟩ a1).setCell ⟨w.heap.size, 2, none⟩ a2) := ((Tch.set (S := fun k => k = w.heap.size) rfl).trans (Tch.set rfl)).trans (Tch.set rfl)
  exact ⟨set3h h.out _ _ _, ⟨((h.fr.cur.put hn hl _).put hn hl _).put hn hl _, ((h.fr.tch.fresh (Nat.le_refl _)).fresh (Nat.le_refl _)).fresh (Nat.le_refl _)⟩,
    Kd.R_mono (R_tch h.r0 ht h.out (by decide)) (by simp), Kd.R_mono (R_tch h.r1 ht h.out (by decide)) (by simp), Kd.R_mono (R_tch h.r2 ht h.out (by decide)) (by simp)⟩
end Go.Proofs.YtbccaabaplbmhaaGreatDoor.L1
namespace Go.Proofs.YtbccaabaplbmhaaGreatDoor.L1
open Go.RowKit Go.Proofs.YtbccaabaplbmhaaGreatDoorW.PrintWords Go.Proofs.YtbccaabaplbmhaaGreatDoor.B
set_option linter.unusedVariables false
set_option linter.unusedSimpArgs false
attribute [local go_sem] mk_cell mk_frozen
section
variable (w : World)
set_option maxRecDepth 1000000 in
set_option maxHeartbeats 16000000 in
theorem inst_end (w0 : World) (g : Nat) (A : Option Addr) (c : Nat) (bs : List Int) (rs : Int) (res : Inst × Cu) (k j : Nat) (s : Cu) (x : Inst) (v0 v1 v2 : Value) {t1 t2 t3 t4 t5 t10 t11 t12 t13 t14 t15 t16 t17 t18 t19 t20 t21 t22 t23 t24 t25 t26 t27 t28 t29 t30 t31 t32 t33 t34 t35 t36 t37 t38 t39 t40 t41 t42 t43 t44 t45 t46 t47 t48 t49 t50 t51 t52 t53 t54 t55 t56 t57 t58 t59 t60 t61 t62 t63 t64 t65 t66 t67 t68 t69 t70 t71 t72 t73 t74 t75 t76 t77 t78 t79 t80 t81 t82 t83 t84 t85 t86 t87 t88 t89 t90 t91 t92 t93 t94 t95 t96 t97 t98 t99 t100 t101 t102 t103 t104 t105 t106 t107 t108 t109 t110 t111 t112 t113 t114 t115 t116 t117 t118 t119 t120 t121 t122 t123 t124 t125 t126 t127 t128 t129 t130 t131 t132 t133 t134 t135 t136 t137 t138 t139 t140 t141 t142 t143 t144 t145 t146 t147 t148 t149 t150 t151 t152 t153 t154 t155 t156 t157 t158 t159 t160 t161 t162 t163 t164 t165 t166 t167 t168 t169 t170 t171 t172 t173 t174 t175 t176 t177 t178 t179 t180 t181 t182 t183 t184 t185 t186 t187 : Value} (W : World) (hS : IP w0 w g A c bs s x v0 v1 v2 [] W) (hD : (x, s) = res) : Code.wp Tryz.prog (sufAt 49 (Tryz.f10.body.getD .skip)) (bodyPost Tryz.prog Tryz.f10 (InstPost w0 w g A c bs res)) ⟨#[.pointer (some ⟨g, 0, none⟩), t1, t2, t3, t4, t5, .pointer (some ⟨w.heap.size, 0, none⟩), .pointer (some ⟨w.heap.size + 1, 0, none⟩), .int .i64 (k : Int), .int .i64 (j : Int), t10, t11, t12, t13, t14, t15, t16, t17, t18, t19, t20, t21, t22, t23, t24, t25, t26, t27, t28, t29, t30, t31, t32, t33, t34, t35, t36, t37, t38, t39, t40, t41, t42, t43, t44, t45, t46, t47, t48, t49, t50, t51, t52, t53, t54, t55, t56, t57, t58, t59, t60, t61, t62, t63, t64, t65, t66, t67, t68, t69, t70, t71, t72, t73, t74, t75, t76, t77, t78, t79, t80, t81, t82, t83, t84, t85, t86, t87, t88, t89, t90, t91, t92, t93, t94, t95, t96, t97, t98, t99, t100, t101, t102, t103, t104, t105, t106, t107, t108, t109, t110, t111, t112, t113, t114, t115, t116, t117, t118, t119, t120, t121, t122, t123, t124, t125, t126, t127, t128, t129, t130, t131, t132, t133, t134, t135, t136, t137, t138, t139, t140, t141, t142, t143, t144, t145, t146, t147, t148, t149, t150, t151, t152, t153, t154, t155, t156, t157, t158, t159, t160, t161, t162, t163, t164, t165, t166, t167, t168, t169, t170, t171, t172, t173, t174, t175, t176, t177, t178, t179, t180, t181, t182, t183, t184, t185, t186, t187], []⟩ W := by
  have HS := Aside0.mk hS; have HD := Aside0.mk hD; clear hS hD
  obtain ⟨A0, c0, rfl⟩ := Kd.R_slice HS.out.r0
  obtain ⟨A1, c1, rfl⟩ := Kd.R_slice HS.out.r1
  obtain ⟨A2, c2, rfl⟩ := Kd.R_slice HS.out.r2
  obtain ⟨i1, i2⟩ := lay (Below.refl _ _) HS.out.inn
  obtain ⟨o1, o2⟩ := lay (Below.refl _ _) HS.out.out
  conv => arg 2; whnf
  go_wp2
  clear i1 i2 o1 o2
  obtain ⟨hz, ha, r0, r1, r2⟩ := HS.out.ends (.slice A0 x.vs.length c0) (.slice A1 x.qs.length c1) (.slice A2 x.rs.length c2)
  have e := HD.out
  subst e
  exact bodyPost_ret (results_cell Tryz.results10 rfl hz Tryz.underlying27 rfl (by kernel_rfl)) rfl ⟨_, _, _, rfl, ha, r0, r1, r2⟩
end
end Go.Proofs.YtbccaabaplbmhaaGreatDoor.L1
namespace Go.Proofs.YtbccaabaplbmhaaGreatDoor.L1
open Go.RowKit Go.Proofs.YtbccaabaplbmhaaGreatDoorW.PrintWords Go.Proofs.YtbccaabaplbmhaaGreatDoor.B
set_option linter.unusedVariables false
set_option linter.unusedSimpArgs false
attribute [local go_sem] mk_cell mk_frozen
section
variable (w : World)
set_option maxRecDepth 1000000 in
set_option maxHeartbeats 16000000 in
theorem inst_lim1 (w0 : World) (g : Nat) (A : Option Addr) (c : Nat) (bs : List Int) (rs : Int) (res : Inst × Cu) (k j : Nat) (s : Cu) (vs : List Veh) (xs : List Req) (rf : List Road) (v0 v1 v2 : Value) {t1 t2 t3 t4 t5 t10 t11 t12 t13 t14 t15 t16 t17 t18 t19 t20 t21 t22 t23 t24 t25 t26 t27 t28 t29 t30 t31 t32 t33 t34 t35 t36 t37 t38 t39 t40 t41 t42 t43 t44 t45 t46 t47 t48 t49 t50 t51 t52 t53 t54 t55 t56 t57 t58 t59 t60 t61 t62 t63 t64 t65 t66 t67 t68 t69 t70 t71 t72 t73 t74 t75 t76 t77 t78 t79 t80 t81 t82 t83 t84 t85 t86 t87 t88 t89 t90 t91 t92 t93 t94 t95 t96 t97 t98 t99 t100 t101 t102 t103 t104 t105 t106 t107 t108 t109 t110 t111 t112 t113 t114 t115 t116 t117 t118 t119 t120 t121 t122 t123 t124 t125 t126 t127 t128 t129 t130 t131 t132 t133 t134 t135 t136 t137 t138 t139 t140 t141 t142 t143 t144 t145 t146 t147 t148 t149 t150 t151 t152 t153 t154 t155 t156 t157 t158 t159 t160 t161 t162 t163 t164 t165 t166 t167 t168 t169 t170 t171 t172 t173 t174 t175 t176 t177 t178 t179 t180 t181 t182 t183 t184 t185 t186 t187 : Value} (W : World) (hlen : xs.length = j) (hkn : j ≤ 6) (hS : IP w0 w g A c bs s ⟨vs, xs, rf⟩ v0 v1 v2 [] W) (hD : (bnd (lim1D bs j xs s) fun qs' s10 => ((⟨vs, qs', rf⟩, s10) : Inst × Cu)) = res) : Code.wp Tryz.prog (sufAt 46 (Tryz.f10.body.getD .skip)) (bodyPost Tryz.prog Tryz.f10 (InstPost w0 w g A c bs res)) ⟨#[.pointer (some ⟨g, 0, none⟩), t1, t2, t3, t4, t5, .pointer (some ⟨w.heap.size, 0, none⟩), .pointer (some ⟨w.heap.size + 1, 0, none⟩), .int .i64 (k : Int), .int .i64 (j : Int), t10, t11, t12, t13, t14, t15, t16, t17, t18, t19, t20, t21, t22, t23, t24, t25, t26, t27, t28, t29, t30, t31, t32, t33, t34, t35, t36, t37, t38, t39, t40, t41, t42, t43, t44, t45, t46, t47, t48, t49, t50, t51, t52, t53, t54, t55, t56, t57, t58, t59, t60, t61, t62, t63, t64, t65, t66, t67, t68, t69, t70, t71, t72, t73, t74, t75, t76, t77, t78, t79, t80, t81, t82, t83, t84, t85, t86, t87, t88, t89, t90, t91, t92, t93, t94, t95, t96, t97, t98, t99, t100, t101, t102, t103, t104, t105, t106, t107, t108, t109, t110, t111, t112, t113, t114, t115, t116, t117, t118, t119, t120, t121, t122, t123, t124, t125, t126, t127, t128, t129, t130, t131, t132, t133, t134, t135, t136, t137, t138, t139, t140, t141, t142, t143, t144, t145, t146, t147, t148, t149, t150, t151, t152, t153, t154, t155, t156, t157, t158, t159, t160, t161, t162, t163, t164, t165, t166, t167, t168, t169, t170, t171, t172, t173, t174, t175, t176, t177, t178, t179, t180, t181, t182, t183, t184, t185, t186, t187], []⟩ W := by
  have HS8 := Aside0.mk hS; have HD := Aside0.mk hD; have HLN := Aside0.mk hlen; have HKB := Aside0.mk hkn; clear hS hD hlen hkn
  generalize hx : lim1D bs j xs s = r at HD
  obtain ⟨xs', s9⟩ := r
  rw [bnd_mk] at HD
  have HL0 := Aside0.mk hx; clear hx
  conv => arg 2; whnf
  dsimp only
  go_upto_region 46 with fail
  go_cut [170] from 16 (fun vb wx => ∃ b s10, vb = .bool (b && decide (0 < (j : Int))) ∧ onceD bs 10 s = (b, s10) ∧ IP w0 w g A c bs s10 ⟨vs, xs, rf⟩ v0 v1 v2 [] wx)
  case first =>
    go_wp2_with fail
    go_at_call 29
    refine (spec_once _ w0 g A c bs s 10 (by decide) (by decide) HS8.out.fr.cur).mono ?_
    rintro e w10 ⟨rfl, ha⟩
    have HS10 := Aside0.mk (HS8.out.draw ha); clear ha HS8
    generalize hx : onceD bs 10 s = r at HS10 ⊢
    have HX := Aside0.mk hx; clear hx
    obtain ⟨b, s10⟩ := r
    cases b
    · go_wp2
      go_meet
      exact ⟨false, s10, rfl, HX.out, HS10.out⟩
    · go_wp2
      all_goals go_meet
      all_goals exact ⟨true, s10, by simp, HX.out, HS10.out⟩
  case rest =>
    rename World => w10
    obtain ⟨b, s10, rfl, he, hs⟩ := hcut
    clear HS8
    have HS10 := Aside0.mk hs; clear hs
    unfold lim1D at HL0
    rw [he, bnd_mk] at HL0
    clear he
    go_upto_if 170 with fail
    go_cut [] from 16 (fun wx => ∃ v0 v1 v2, IP w0 w g A c bs s9 ⟨vs, xs', rf⟩ v0 v1 v2 [] wx ∧ xs'.length = j)
    case first =>
      by_cases hb : b = true ∧ 0 < (j : Int)
      · rw [if_pos hb] at HL0
        have hbb : (b && decide (0 < (j : Int))) = true := by rw [hb.1, decide_eq_true hb.2]; rfl
        rw [hbb]
        have HK0 := Aside0.mk hb.2
        clear hb hbb
        go_wp2_with fail
        go_at_call 30
        refine (spec_below _ w0 g A c bs s10 j (by have := HK0.out; omega) (by have := HKB.out; omega) HS10.out.fr.cur).mono ?_
        rintro e w11 ⟨rfl, ha⟩
        have HS11 := Aside0.mk (HS10.out.draw ha); clear ha HS10
        have HBD := Aside0.mk (belowD_bd bs j s10 (by have := HK0.out; omega) (by have := HKB.out; omega))
        generalize belowD bs j s10 = r at HL0 HS11 HBD ⊢
        obtain ⟨z, s11⟩ := r
        rw [bnd_mk] at HL0
        obtain ⟨zn, hzn⟩ : ∃ zn : Nat, z = zn := ⟨z.toNat, by have := HBD.out; (try simp only at this); omega⟩
        subst hzn
        rw [Int.toNat_natCast] at HL0
        have HZ := Aside0.mk (show zn < xs.length by have := HBD.out; have := HLN.out; (try simp only at *); omega)
        clear HBD
        obtain ⟨g3, cap3, hv, _⟩ := Kd.R_form HS11.out.r1 (by have := HZ.out; show 0 < xs.length; omega)
        subst hv
        go_upto_region 48 with fail
        generalize hy : xs.getD zn zQ = y at HL0
        have HY := Aside0.mk hy; clear hy
        have hlz := HZ.out
        have hcm : 0 ≤ (zn : Int) ∧ (zn : Int) < (xs.length : Int) := by omega
        refine Flo.wp_region_float [false, false, false, false, false, false, false, false, false, false, true, false, false, true] (fun wx => ∃ s, IP w0 w g A c bs s ⟨vs, xs, rf⟩ v0 (.slice (some ⟨g3, 0, none⟩) xs.length cap3) v2 [] wx) (by kernel_rfl) (by kernel_rfl) ?_
        repeat (first
          | (refine Flo.lexE_do _ (by intro W hj; obtain ⟨_, hj⟩ := hj; obtain ⟨i1, i2⟩ := lay (Below.refl _ _) hj.inn; obtain ⟨ad, e0, h0, h1⟩ := Kd.flat_cells (d := kReq) rfl (Kd.R_reads' hj.r1).2.2 zQ zn HZ.out; cases e0; rw [HY.out] at h0 h1; have c2 : W.cell? ⟨g3, zn * 12 + 2, none⟩ = some (.int .i64 y.from_.x) := cell_shift (h1 1 _ rfl) rfl; have c3 : W.cell? ⟨g3, zn * 12 + 2 + 1, none⟩ = some (.int .i64 y.from_.y) := cell_shift (h1 2 _ rfl) rfl; have c4 : W.cell? ⟨g3, zn * 12 + 2 + 2, none⟩ = some (.int .i64 y.from_.o) := cell_shift (h1 3 _ rfl) rfl; have c5 : W.cell? ⟨g3, zn * 12 + 2 + 3, none⟩ = some (.int .i64 y.from_.c) := cell_shift (h1 4 _ rfl) rfl; have c6 : W.cell? ⟨g3, zn * 12 + 2 + 4, none⟩ = some (.int .i64 y.from_.h) := cell_shift (h1 5 _ rfl) rfl; clear h0 h1; go_simp; exact Flo.UponE.val) ?_; refine Flo.lexE_norm (fun K hK => ?_); go_simp; refine hK _ ?_; clear hK K)
          | (refine Flo.lexE_pass ?_; refine Flo.lexE_norm (fun K hK => ?_); go_simp; refine hK _ ?_; clear hK K))
        refine Flo.lexE_nil ?_
        dsimp only [Flo.chainOf]
        have HS11' := Aside0.mk (HS11.out.drew 1); clear HS11 hlz hcm
        refine Flo.chain_do ⟨_, HS11'.out⟩ ?_
        go_simp
        refine Flo.UponC.enter ?_
        refine (spec_limits _ w0 g A c bs s11 y.from_ HS11'.out.fr.cur).mono ?_
        rintro e w12 ⟨rfl, ha⟩
        have HS12 := Aside0.mk (HS11'.out.draw ha); clear ha HS11'
        generalize limD bs y.from_ s11 = r at HL0 HS12 ⊢
        obtain ⟨p, s12⟩ := r
        rw [bnd_mk] at HL0
        refine ⟨_, rfl, ?_⟩
        unfold Place.val5
        refine Flo.chain_norm (fun K hK => ?_); go_simp; refine hK _ _ ?_; clear hK K
        obtain ⟨w13, hrun, hr, hg⟩ := Kd.flat_seg_run (P := Tryz.prog) kReq rfl 43 (o' := zn * 12 + 2) zn 2 (.agg #[.int .i64 p.x, .int .i64 p.y, .int .i64 p.o, .int .i64 p.c, .int .i64 p.h]) [.int .i64 p.x, .int .i64 p.y, .int .i64 p.o, .int .i64 p.c, .int .i64 p.h] y ⟨y.size, y.tags, p, y.to_⟩ zQ _ rfl rfl (by kernel_rfl) (by intro q hq; simp only [List.mem_cons, List.not_mem_nil, or_false] at hq; rcases hq with rfl | rfl | rfl | rfl | rfl <;> rfl) HS12.out.r1 HZ.out (by show 2 + 5 ≤ 12; decide) HY.out rfl
        refine Flo.chain_do ⟨_, HS12.out⟩ ?_
        refine Flo.store_run _ _ _ rfl rfl rfl hrun ?_
        refine Flo.chain_nil ?_
        have H13 := Aside0.mk (HS12.out.put1 hr hg); clear hr hg hrun HS12
        have e1 : xs.set zn ⟨y.size, y.tags, p, y.to_⟩ = xs' := congrArg Prod.fst HL0.out
        have e2 : s12 = s9 := congrArg Prod.snd HL0.out
        clear HL0
        subst e1; subst e2
        go_wp2
        go_meet
        exact ⟨_, _, _, H13.out, by rw [List.length_set]; exact HLN.out⟩
      · rw [if_neg hb] at HL0
        have hbb : (b && decide (0 < (j : Int))) = false := by
          cases b
          · rfl
          · rw [Bool.true_and]; exact decide_eq_false (fun h => hb ⟨rfl, h⟩)
        rw [hbb]
        clear hb hbb
        have e1 : xs = xs' := congrArg Prod.fst HL0.out
        have e2 : s10 = s9 := congrArg Prod.snd HL0.out
        clear HL0
        subst e1; subst e2
        go_wp2
        go_meet
        exact ⟨_, _, _, HS10.out, HLN.out⟩
    case rest =>
      rename World => w11
      obtain ⟨v0', v1', v2', hs, hl⟩ := hcut
      go_step
      exact inst_end w w0 g A c bs rs res k j s9 _ _ _ _ _ hs HD.out
end
end Go.Proofs.YtbccaabaplbmhaaGreatDoor.L1
namespace Go.Proofs.YtbccaabaplbmhaaGreatDoor.L1
open Go.RowKit Go.Proofs.YtbccaabaplbmhaaGreatDoorW.PrintWords Go.Proofs.YtbccaabaplbmhaaGreatDoor.B
set_option linter.unusedVariables false
set_option linter.unusedSimpArgs false
attribute [local go_sem] mk_cell mk_frozen
section
variable (w : World)
set_option maxRecDepth 1000000 in
set_option maxHeartbeats 16000000 in
theorem inst_lim0 (w0 : World) (g : Nat) (A : Option Addr) (c : Nat) (bs : List Int) (rs : Int) (res : Inst × Cu) (k j : Nat) (s : Cu) (xs : List Veh) (qs : List Req) (rf : List Road) (v0 v1 v2 : Value) {t1 t2 t3 t4 t5 t10 t11 t12 t13 t14 t15 t16 t17 t18 t19 t20 t21 t22 t23 t24 t25 t26 t27 t28 t29 t30 t31 t32 t33 t34 t35 t36 t37 t38 t39 t40 t41 t42 t43 t44 t45 t46 t47 t48 t49 t50 t51 t52 t53 t54 t55 t56 t57 t58 t59 t60 t61 t62 t63 t64 t65 t66 t67 t68 t69 t70 t71 t72 t73 t74 t75 t76 t77 t78 t79 t80 t81 t82 t83 t84 t85 t86 t87 t88 t89 t90 t91 t92 t93 t94 t95 t96 t97 t98 t99 t100 t101 t102 t103 t104 t105 t106 t107 t108 t109 t110 t111 t112 t113 t114 t115 t116 t117 t118 t119 t120 t121 t122 t123 t124 t125 t126 t127 t128 t129 t130 t131 t132 t133 t134 t135 t136 t137 t138 t139 t140 t141 t142 t143 t144 t145 t146 t147 t148 t149 t150 t151 t152 t153 t154 t155 t156 t157 t158 t159 t160 t161 t162 t163 t164 t165 t166 t167 t168 t169 t170 t171 t172 t173 t174 t175 t176 t177 t178 t179 t180 t181 t182 t183 t184 t185 t186 t187 : Value} (W : World) (hlen : xs.length = k) (hql : qs.length = j) (hkn : k ≤ 3) (hjn : j ≤ 6) (hS : IP w0 w g A c bs s ⟨xs, qs, rf⟩ v0 v1 v2 [] W) (hD : (bnd (lim0D bs k xs s) fun vs' s9 => bnd (lim1D bs j qs s9) fun qs' s10 => ((⟨vs', qs', rf⟩, s10) : Inst × Cu)) = res) : Code.wp Tryz.prog (sufAt 43 (Tryz.f10.body.getD .skip)) (bodyPost Tryz.prog Tryz.f10 (InstPost w0 w g A c bs res)) ⟨#[.pointer (some ⟨g, 0, none⟩), t1, t2, t3, t4, t5, .pointer (some ⟨w.heap.size, 0, none⟩), .pointer (some ⟨w.heap.size + 1, 0, none⟩), .int .i64 (k : Int), .int .i64 (j : Int), t10, t11, t12, t13, t14, t15, t16, t17, t18, t19, t20, t21, t22, t23, t24, t25, t26, t27, t28, t29, t30, t31, t32, t33, t34, t35, t36, t37, t38, t39, t40, t41, t42, t43, t44, t45, t46, t47, t48, t49, t50, t51, t52, t53, t54, t55, t56, t57, t58, t59, t60, t61, t62, t63, t64, t65, t66, t67, t68, t69, t70, t71, t72, t73, t74, t75, t76, t77, t78, t79, t80, t81, t82, t83, t84, t85, t86, t87, t88, t89, t90, t91, t92, t93, t94, t95, t96, t97, t98, t99, t100, t101, t102, t103, t104, t105, t106, t107, t108, t109, t110, t111, t112, t113, t114, t115, t116, t117, t118, t119, t120, t121, t122, t123, t124, t125, t126, t127, t128, t129, t130, t131, t132, t133, t134, t135, t136, t137, t138, t139, t140, t141, t142, t143, t144, t145, t146, t147, t148, t149, t150, t151, t152, t153, t154, t155, t156, t157, t158, t159, t160, t161, t162, t163, t164, t165, t166, t167, t168, t169, t170, t171, t172, t173, t174, t175, t176, t177, t178, t179, t180, t181, t182, t183, t184, t185, t186, t187], []⟩ W := by
  have HS8 := Aside0.mk hS; have HD := Aside0.mk hD; have HLN := Aside0.mk hlen; have HKB := Aside0.mk hkn; clear hS hD hlen hkn
  generalize hx : lim0D bs k xs s = r at HD
  obtain ⟨xs', s9⟩ := r
  rw [bnd_mk] at HD
  have HL0 := Aside0.mk hx; clear hx
  conv => arg 2; whnf
  dsimp only
  go_upto_region 43 with fail
  go_cut [148] from 16 (fun vb wx => ∃ b s10, vb = .bool (b && decide (0 < (k : Int))) ∧ onceD bs 10 s = (b, s10) ∧ IP w0 w g A c bs s10 ⟨xs, qs, rf⟩ v0 v1 v2 [] wx)
  case first =>
    go_wp2_with fail
    go_at_call 29
    refine (spec_once _ w0 g A c bs s 10 (by decide) (by decide) HS8.out.fr.cur).mono ?_
    rintro e w10 ⟨rfl, ha⟩
    have HS10 := Aside0.mk (HS8.out.draw ha); clear ha HS8
    generalize hx : onceD bs 10 s = r at HS10 ⊢
    have HX := Aside0.mk hx; clear hx
    obtain ⟨b, s10⟩ := r
    cases b
    · go_wp2
      go_meet
      exact ⟨false, s10, rfl, HX.out, HS10.out⟩
    · go_wp2
      all_goals go_meet
      all_goals exact ⟨true, s10, by simp, HX.out, HS10.out⟩
  case rest =>
    rename World => w10
    obtain ⟨b, s10, rfl, he, hs⟩ := hcut
    clear HS8
    have HS10 := Aside0.mk hs; clear hs
    unfold lim0D at HL0
    rw [he, bnd_mk] at HL0
    clear he
    go_upto_if 148 with fail
    go_cut [] from 16 (fun wx => ∃ v0 v1 v2, IP w0 w g A c bs s9 ⟨xs', qs, rf⟩ v0 v1 v2 [] wx ∧ xs'.length = k)
    case first =>
      by_cases hb : b = true ∧ 0 < (k : Int)
      · rw [if_pos hb] at HL0
        have hbb : (b && decide (0 < (k : Int))) = true := by rw [hb.1, decide_eq_true hb.2]; rfl
        rw [hbb]
        have HK0 := Aside0.mk hb.2
        clear hb hbb
        go_wp2_with fail
        go_at_call 30
        refine (spec_below _ w0 g A c bs s10 k (by have := HK0.out; omega) (by have := HKB.out; omega) HS10.out.fr.cur).mono ?_
        rintro e w11 ⟨rfl, ha⟩
        have HS11 := Aside0.mk (HS10.out.draw ha); clear ha HS10
        have HBD := Aside0.mk (belowD_bd bs k s10 (by have := HK0.out; omega) (by have := HKB.out; omega))
        generalize belowD bs k s10 = r at HL0 HS11 HBD ⊢
        obtain ⟨z, s11⟩ := r
        rw [bnd_mk] at HL0
        obtain ⟨zn, hzn⟩ : ∃ zn : Nat, z = zn := ⟨z.toNat, by have := HBD.out; (try simp only at this); omega⟩
        subst hzn
        rw [Int.toNat_natCast] at HL0
        have HZ := Aside0.mk (show zn < xs.length by have := HBD.out; have := HLN.out; (try simp only at *); omega)
        clear HBD
        obtain ⟨g3, cap3, hv, _⟩ := Kd.R_form HS11.out.r0 (by have := HZ.out; show 0 < xs.length; omega)
        subst hv
        go_upto_region 45 with fail
        generalize hy : xs.getD zn zV = y at HL0
        have HY := Aside0.mk hy; clear hy
        have hlz := HZ.out
        have hcm : 0 ≤ (zn : Int) ∧ (zn : Int) < (xs.length : Int) := by omega
        refine Flo.wp_region_float [false, false, false, false, false, false, false, false, false, false, true, false, false, true] (fun wx => ∃ s, IP w0 w g A c bs s ⟨xs, qs, rf⟩ (.slice (some ⟨g3, 0, none⟩) xs.length cap3) v1 v2 [] wx) (by kernel_rfl) (by kernel_rfl) ?_
        repeat (first
          | (refine Flo.lexE_do _ (by intro W hj; obtain ⟨_, hj⟩ := hj; obtain ⟨i1, i2⟩ := lay (Below.refl _ _) hj.inn; obtain ⟨ad, e0, h0, h1⟩ := Kd.flat_cells (d := kVeh) rfl (Kd.R_reads' hj.r0).2.2 zV zn HZ.out; cases e0; rw [HY.out] at h0 h1; have c2 : W.cell? ⟨g3, zn * 7 + 2, none⟩ = some (.int .i64 y.home.x) := cell_shift (h1 1 _ rfl) rfl; have c3 : W.cell? ⟨g3, zn * 7 + 2 + 1, none⟩ = some (.int .i64 y.home.y) := cell_shift (h1 2 _ rfl) rfl; have c4 : W.cell? ⟨g3, zn * 7 + 2 + 2, none⟩ = some (.int .i64 y.home.o) := cell_shift (h1 3 _ rfl) rfl; have c5 : W.cell? ⟨g3, zn * 7 + 2 + 3, none⟩ = some (.int .i64 y.home.c) := cell_shift (h1 4 _ rfl) rfl; have c6 : W.cell? ⟨g3, zn * 7 + 2 + 4, none⟩ = some (.int .i64 y.home.h) := cell_shift (h1 5 _ rfl) rfl; clear h0 h1; go_simp; exact Flo.UponE.val) ?_; refine Flo.lexE_norm (fun K hK => ?_); go_simp; refine hK _ ?_; clear hK K)
          | (refine Flo.lexE_pass ?_; refine Flo.lexE_norm (fun K hK => ?_); go_simp; refine hK _ ?_; clear hK K))
        refine Flo.lexE_nil ?_
        dsimp only [Flo.chainOf]
        have HS11' := Aside0.mk (HS11.out.drew 1); clear HS11 hlz hcm
        refine Flo.chain_do ⟨_, HS11'.out⟩ ?_
        go_simp
        refine Flo.UponC.enter ?_
        refine (spec_limits _ w0 g A c bs s11 y.home HS11'.out.fr.cur).mono ?_
        rintro e w12 ⟨rfl, ha⟩
        have HS12 := Aside0.mk (HS11'.out.draw ha); clear ha HS11'
        generalize limD bs y.home s11 = r at HL0 HS12 ⊢
        obtain ⟨p, s12⟩ := r
        rw [bnd_mk] at HL0
        refine ⟨_, rfl, ?_⟩
        unfold Place.val5
        refine Flo.chain_norm (fun K hK => ?_); go_simp; refine hK _ _ ?_; clear hK K
        obtain ⟨w13, hrun, hr, hg⟩ := Kd.flat_seg_run (P := Tryz.prog) kVeh rfl 43 (o' := zn * 7 + 2) zn 2 (.agg #[.int .i64 p.x, .int .i64 p.y, .int .i64 p.o, .int .i64 p.c, .int .i64 p.h]) [.int .i64 p.x, .int .i64 p.y, .int .i64 p.o, .int .i64 p.c, .int .i64 p.h] y ⟨y.room, y.skills, p⟩ zV _ rfl rfl (by kernel_rfl) (by intro q hq; simp only [List.mem_cons, List.not_mem_nil, or_false] at hq; rcases hq with rfl | rfl | rfl | rfl | rfl <;> rfl) HS12.out.r0 HZ.out (by show 2 + 5 ≤ 7; decide) HY.out rfl
        refine Flo.chain_do ⟨_, HS12.out⟩ ?_
        refine Flo.store_run _ _ _ rfl rfl rfl hrun ?_
        refine Flo.chain_nil ?_
        have H13 := Aside0.mk (HS12.out.put0 hr hg); clear hr hg hrun HS12
        have e1 : xs.set zn ⟨y.room, y.skills, p⟩ = xs' := congrArg Prod.fst HL0.out
        have e2 : s12 = s9 := congrArg Prod.snd HL0.out
        clear HL0
        subst e1; subst e2
        go_wp2
        go_meet
        exact ⟨_, _, _, H13.out, by rw [List.length_set]; exact HLN.out⟩
      · rw [if_neg hb] at HL0
        have hbb : (b && decide (0 < (k : Int))) = false := by
          cases b
          · rfl
          · rw [Bool.true_and]; exact decide_eq_false (fun h => hb ⟨rfl, h⟩)
        rw [hbb]
        clear hb hbb
        have e1 : xs = xs' := congrArg Prod.fst HL0.out
        have e2 : s10 = s9 := congrArg Prod.snd HL0.out
        clear HL0
        subst e1; subst e2
        go_wp2
        go_meet
        exact ⟨_, _, _, HS10.out, HLN.out⟩
    case rest =>
      rename World => w11
      obtain ⟨v0', v1', v2', hs, hl⟩ := hcut
      go_step
      exact inst_lim1 w w0 g A c bs rs res k j s9 _ _ _ _ _ _ _ hql hjn hs HD.out
end
end Go.Proofs.YtbccaabaplbmhaaGreatDoor.L1
namespace Go.Proofs.YtbccaabaplbmhaaGreatDoor.L1
open Go.RowKit Go.Proofs.YtbccaabaplbmhaaGreatDoorW.PrintWords Go.Proofs.YtbccaabaplbmhaaGreatDoor.B
set_option linter.unusedVariables false
set_option linter.unusedSimpArgs false
attribute [local go_sem] mk_cell mk_frozen
section
variable (w : World)
set_option maxRecDepth 1000000 in
set_option maxHeartbeats 16000000 in
theorem inst_roads (w0 : World) (g : Nat) (A : Option Addr) (c : Nat) (bs : List Int) (rs : Int) (res : Inst × Cu) (k j : Nat) (s7 : Cu) (vs : List Veh) (qs : List Req) (v0 v1 : Value) {t1 t2 t3 t4 t5 t10 t11 t12 t13 t14 t15 t16 t17 t18 t19 t20 t21 t22 t23 t24 t25 t26 t27 t28 t29 t30 t31 t32 t33 t34 t35 t36 t37 t38 t39 t40 t41 t42 t43 t44 t45 t46 t47 t48 t49 t50 t51 t52 t53 t54 t55 t56 t57 t58 t59 t60 t61 t62 t63 t64 t65 t66 t67 t68 t69 t70 t71 t72 t73 t74 t75 t76 t77 t78 t79 t80 t81 t82 t83 t84 t85 t86 t87 t88 t89 t90 t91 t92 t93 t94 t95 t96 t97 t98 t99 t100 t101 t102 t103 t104 t105 t106 t107 t108 t109 t110 t111 t112 t113 t114 t115 t116 t117 t118 t119 t120 t121 t122 t123 t124 t125 t126 t127 t128 t129 t130 t131 t132 t133 t134 t135 t136 t137 t138 t139 t140 t141 t142 t143 t144 t145 t146 t147 t148 t149 t150 t151 t152 t153 t154 t155 t156 t157 t158 t159 t160 t161 t162 t163 t164 t165 t166 t167 t168 t169 t170 t171 t172 t173 t174 t175 t176 t177 t178 t179 t180 t181 t182 t183 t184 t185 t186 t187 : Value} (w7 : World) (hlen : vs.length = k) (hql : qs.length = j) (hkn : k ≤ 3) (hjn : j ≤ 6) (hS : IP w0 w g A c bs s7 ⟨vs, qs, []⟩ v0 v1 (.slice none 0 0) [] w7) (hD : (bnd (someRoadsD bs ((k : Int) + 2 * (j : Int)) s7) fun rs s8 => bnd (lim0D bs k vs s8) fun vs' s9 => bnd (lim1D bs j qs s9) fun qs' s10 => ((⟨vs', qs', rs⟩, s10) : Inst × Cu)) = res) : Code.wp Tryz.prog (sufAt 29 (Tryz.f10.body.getD .skip)) (bodyPost Tryz.prog Tryz.f10 (InstPost w0 w g A c bs res)) ⟨#[.pointer (some ⟨g, 0, none⟩), t1, t2, t3, t4, t5, .pointer (some ⟨w.heap.size, 0, none⟩), .pointer (some ⟨w.heap.size + 1, 0, none⟩), .int .i64 (k : Int), .int .i64 (j : Int), t10, t11, t12, t13, t14, t15, t16, t17, t18, t19, t20, t21, t22, t23, t24, t25, t26, t27, t28, t29, t30, t31, t32, t33, t34, t35, t36, t37, t38, t39, t40, t41, t42, t43, t44, t45, t46, t47, t48, t49, t50, t51, t52, t53, t54, t55, t56, t57, t58, t59, t60, t61, t62, t63, t64, t65, t66, t67, t68, t69, t70, t71, t72, t73, t74, t75, t76, t77, t78, t79, t80, t81, t82, t83, t84, t85, t86, t87, t88, t89, t90, t91, t92, t93, t94, t95, t96, t97, t98, t99, t100, t101, t102, t103, t104, t105, t106, t107, t108, t109, t110, t111, t112, t113, t114, t115, t116, t117, t118, t119, t120, t121, t122, t123, t124, t125, t126, t127, t128, t129, t130, t131, t132, t133, t134, t135, t136, t137, t138, t139, t140, t141, t142, t143, t144, t145, t146, t147, t148, t149, t150, t151, t152, t153, t154, t155, t156, t157, t158, t159, t160, t161, t162, t163, t164, t165, t166, t167, t168, t169, t170, t171, t172, t173, t174, t175, t176, t177, t178, t179, t180, t181, t182, t183, t184, t185, t186, t187], []⟩ w7 := by
  have HS7 := Aside0.mk hS; have HD := Aside0.mk hD; have HN4 := Aside0.mk hkn; have HM5 := Aside0.mk hjn; clear hS hD hkn hjn
  conv => arg 2; whnf
  dsimp only
  have q1 : wrap64 (2 * (j : Int)) = 2 * (j : Int) := IntWalk.wrap64_in _ (by have := HM5.out; omega)
  have q2 : wrap64 ((k : Int) + 2 * (j : Int)) = (k : Int) + 2 * (j : Int) := IntWalk.wrap64_in _ (by have := HN4.out; have := HM5.out; omega)
  go_upto_region 30 with fail
  rw [q2]
  clear q1 q2
  have HNN := Aside0.mk (show (k : Int) + 2 * (j : Int) ≤ 15 by have := HN4.out; have := HM5.out; omega)
  generalize hN : (k : Int) + 2 * (j : Int) = N at HD HNN ⊢
  clear hN
  generalize hx : someRoadsD bs N s7 = r at HD
  obtain ⟨rf, s8⟩ := r
  rw [bnd_mk] at HD
  have HRD := Aside0.mk hx; clear hx
  go_cut [98] from 16 (fun v98 wx => ∃ b s9, v98 = .bool b ∧ twoD bs N s7 = (b, s9) ∧ (b = true → 2 ≤ N) ∧ IP w0 w g A c bs s9 ⟨vs, qs, []⟩ v0 v1 (.slice none 0 0) [] wx)
  case first =>
    by_cases hN : 2 ≤ N
    · have d1 : decide (N ≥ 2) = true := decide_eq_true hN
      have d2 : decide (2 ≤ N) = true := decide_eq_true hN
      have HN2 := Aside0.mk hN; clear hN
      go_wp2_with fail
      go_at_call 29
      refine (spec_once _ w0 g A c bs s7 2 (by decide) (by decide) HS7.out.fr.cur).mono ?_
      rintro e w8 ⟨rfl, ha⟩
      have HS8 := Aside0.mk (HS7.out.draw ha); clear ha HS7
      go_wp2
      go_meet
      exact ⟨_, _, rfl, if_pos HN2.out, fun _ => HN2.out, HS8.out⟩
    · have d1 : decide (N ≥ 2) = false := decide_eq_false (by omega)
      have d2 : decide (2 ≤ N) = false := decide_eq_false (by omega)
      have HN2 := Aside0.mk hN; clear hN
      go_wp2
      go_meet
      exact ⟨false, s7, rfl, if_neg (by have := HN2.out; omega), fun h => (by cases h), HS7.out⟩
  case rest =>
  rename World => w8
  obtain ⟨b, s9, rfl, he, hb, hs⟩ := hcut
  clear HS7
  have HS8 := Aside0.mk hs; clear hs
  have HB2 := Aside0.mk hb; clear hb
  unfold someRoadsD at HRD
  rw [he, bnd_mk] at HRD
  clear he
  go_upto_if 98 with fail
  go_cut [] from 16 (fun wx => ∃ v2, IP w0 w g A c bs s8 ⟨vs, qs, rf⟩ v0 v1 v2 [] wx)
  case first =>
      cases b
      · have HRD := Aside0.mk (show (([], s9) : List Road × Cu) = (rf, s8) from HRD.out)
        have e1 : [] = rf := congrArg Prod.fst HRD.out
        have e2 : s9 = s8 := congrArg Prod.snd HRD.out
        subst e1; subst e2
        go_wp2
        go_meet
        exact ⟨_, HS8.out⟩
      · have HRD := Aside0.mk (show (bnd (rangeD bs 1 4 s9) fun kk s2 => roadsD bs N kk.toNat 0 (-1) [] s2) = (rf, s8) from HRD.out)
        have HN2 := Aside0.mk (HB2.out rfl)
        have z0 : (N == 0) = false := beq_false_of_ne (by have := HN2.out; omega)
        have z1 : (N == -1) = false := beq_false_of_ne (by have := HN2.out; omega)
        have z2 : ¬ N = 0 := by have := HN2.out; omega
        have z3 : ¬ N = -1 := by have := HN2.out; omega
        go_wp2_with fail
        go_at_call 28
        refine (spec_range _ w0 g A c bs s9 1 4 (by decide) (by decide) (by decide) (by decide) HS8.out.fr.cur).mono ?_
        rintro e w9 ⟨rfl, ha⟩
        have HS9 := Aside0.mk (HS8.out.draw ha); clear ha HS8
        have HK := Aside0.mk (rangeD_bd bs 1 4 s9 (by decide) (by decide) (by decide) (by decide))
        generalize rangeD bs 1 4 s9 = r at HRD HS9 HK ⊢
        obtain ⟨kk, s10⟩ := r
        rw [bnd_mk] at HRD
        obtain ⟨kn, hkn⟩ : ∃ kn : Nat, kk = kn := ⟨kk.toNat, by have := HK.out; simp only at this; omega⟩
        subst hkn
        rw [Int.toNat_natCast] at HRD
        have HK4 := Aside0.mk (show kn ≤ 4 by have := HK.out; simp only at this; omega); clear HK
        go_wp2_with fail
        go_loopg [17, 18, 19] (kn + 1) (fun q v17 v18 v19 wr => ∃ (i : Nat) (a b : Int) (l : List Road) (v2 : Value) (s' : Cu), q = kn + 1 - i ∧ i ≤ kn ∧ l.length ≤ i ∧ v17 = .int .i64 a ∧ v18 = .int .i64 b ∧ v19 = .int .i64 i ∧ Aside0 (roadsD bs N (kn - i) a b l s' = (rf, s8)) ∧ Aside0 (IP w0 w g A c bs s' ⟨vs, qs, l⟩ v0 v1 v2 [] wr))
        case atStart => exact ⟨0, 0, -1, [], _, s10, by omega, by omega, by simp, rfl, rfl, rfl, HRD, HS9⟩
        case round =>
          obtain ⟨i, a, b, l, v2, s', rfl, hi, hll, rfl, rfl, rfl, HRK, HSk⟩ := hrel
          rename World => w10
          clear HRD HS9
          by_cases hlt : i < kn
          · have d0 : decide ((i : Int) < (kn : Int)) = true := decide_eq_true (by omega)
            have q0 : wrap64 ((i : Int) + 1) = (i : Int) + 1 := IntWalk.wrap64_in _ (by have := HK4.out; omega)
            rw [show kn - i = (kn - (i + 1)) + 1 by omega] at HRK
            unfold roadsD at HRK
            go_wp2_with fail
            go_at_call 30
            refine (spec_below _ w0 g A c bs s' N (by have := HN2.out; omega) (by have := HNN.out; omega) HSk.out.fr.cur).mono ?_
            rintro e w11 ⟨rfl, ha⟩
            have HS11 := Aside0.mk (HSk.out.draw ha); clear ha HSk
            generalize belowD bs N s' = r at HRK HS11 ⊢
            obtain ⟨z, t1⟩ := r
            rw [bnd_mk] at HRK
            go_upto_if 114 with fail
            generalize wrap64 (wrap64 (b + 1) + z) = b1 at HRK ⊢
            go_cut [17, 18] from 101 to 142 (fun v17 v18 wx => v17 = .int .i64 (wrapD N a b1).1 ∧ v18 = .int .i64 (wrapD N a b1).2 ∧ wx = w11)
            case first =>
              go_wp2
              · rename_i h
                have HB3 := Aside0.mk h; clear h
                go_meet
                exact ⟨by unfold wrapD; rw [if_pos HB3.out], by unfold wrapD; rw [if_pos HB3.out], rfl⟩
              · rename_i h
                have HB3 := Aside0.mk h; clear h
                go_meet
                exact ⟨by unfold wrapD; rw [if_neg (by have := HB3.out; omega)], by unfold wrapD; rw [if_neg (by have := HB3.out; omega)], rfl⟩
            case rest =>
              obtain ⟨rfl, rfl, rfl⟩ := hcut
              generalize wrapD N a b1 = ab at HRK ⊢
              obtain ⟨a', b'⟩ := ab
              clear b1 z
              simp only at HRK ⊢
              by_cases hab : a' = b'
              · rw [if_neg (fun h => h.1 hab)] at HRK
                have d1 : (a' == b') = true := beq_iff_eq.2 hab
                have d2 : (a' != b') = false := by rw [bne, d1]; rfl
                clear hab
                go_wp2
                go_roundg (kn + 1 - (i + 1))
                case measure => omega
                case rel => exact ⟨i + 1, _, _, l, v2, t1, rfl, hlt, by omega, rfl, rfl, by go_num, HRK, HS11⟩
              · have d1 : (a' == b') = false := beq_false_of_ne hab
                have d2 : (a' != b') = true := by rw [bne, d1]; rfl
                by_cases han : a' < N
                · rw [if_pos ⟨hab, han⟩] at HRK
                  have d3 : decide (a' < N) = true := decide_eq_true han
                  clear hab han
                  go_upto_region 42 with fail
                  have HIN := Aside0.mk HS11.out.inn
                  refine Flo.wp_region_float [false, false, false, false, false, true, true, true, true, false, true] (fun wx => wx.heap[w.heap.size + 1]? = some (.cells #[v0, v1, v2] 27 (0, 0))) (by kernel_rfl) (by kernel_rfl) ?_
                  repeat (first
                    | (refine Flo.lexE_do _ (by intro W hj; obtain ⟨p1, p2⟩ := lay (Below.refl _ _) hj; go_simp; exact Flo.UponE.val) ?_; refine Flo.lexE_norm (fun K hK => ?_); go_simp; refine hK _ ?_; clear hK K)
                    | (refine Flo.lexE_pass ?_; refine Flo.lexE_norm (fun K hK => ?_); go_simp; refine hK _ ?_; clear hK K))
                  refine Flo.lexE_nil ?_
                  dsimp only [Flo.chainOf]
                  have HS11' := Aside0.mk (HS11.out.drew 1); clear HS11 HIN
                  refine Flo.chain_do HS11'.out.inn ?_
                  go_simp
                  refine Flo.UponC.enter ?_
                  refine (spec_below _ w0 g A c bs t1 40 (by decide) (by decide) HS11'.out.fr.cur).mono ?_
                  rintro e w12 ⟨rfl, ha⟩
                  have HS12 := Aside0.mk (HS11'.out.draw ha); clear ha HS11'
                  generalize belowD bs 40 t1 = r at HRK HS12 ⊢
                  obtain ⟨t, t2⟩ := r
                  rw [bnd_mk] at HRK
                  refine ⟨_, rfl, ?_⟩
                  refine Flo.chain_norm (fun K hK => ?_); go_simp; refine hK _ _ ?_; clear hK K
                  refine Flo.chain_do HS12.out.inn ?_
                  go_simp
                  refine Flo.UponC.val ?_
                  refine Flo.chain_norm (fun K hK => ?_); go_simp; refine hK _ _ ?_; clear hK K
                  refine Flo.chain_do HS12.out.inn ?_
                  go_simp
                  refine Flo.UponC.val ?_
                  refine Flo.chain_norm (fun K hK => ?_); go_simp; refine hK _ _ ?_; clear hK K
                  have HX := Aside0.mk (HS12.out.on (below_alloc (Below.refl _ _) (.cells #[.int .i64 a', .int .i64 b', .int .i64 t] 51)))
                  have HN1 := Aside0.mk (flat_lit (d := kRoad) rfl w12 w.heap.size 51 [⟨a', b', t⟩] HS12.out.fr.tch.size (sl_max 1 (by decide)))
                  refine Flo.chain_do HX.out.inn ?_
                  obtain ⟨vn, w13, hrun, hr, _, hg, _⟩ := Kd.flat_append_run (P := Tryz.prog) kRoad rfl (w0 := _) w.heap.size 25 51 zR 24 25 Tryz.underlying25 (by kernel_rfl) (by decide) (by decide) v2 l [⟨a', b', t⟩] _ _ _ (Kd.R_mono HX.out.r2 (fun _ _ => trivial)) (Kd.R_reads' HN1.out).2.2 (Below.refl _ _) HX.out.fr.tch.size (by have := hll; have := HK4.out; show (_ + 1) * 24 ≤ _; omega)
                  refine Flo.append_run _ _ rfl rfl rfl hrun ?_
                  obtain ⟨A3, c3, rfl⟩ := Kd.R_slice hr
                  have hfr := (HX.out.apart HX.out.r2 (by decide) hg).mem 0 rfl
                  have H14 := Aside0.mk (HX.out.app2 hr hg)
                  clear hr hg hrun HS12 HX HN1
                  refine Flo.chain_norm (fun K hK => ?_); go_simp; refine hK _ _ ?_; clear hK K
                  refine Flo.chain_do hfr ?_
                  obtain ⟨p1, p2⟩ := lay (Below.refl _ _) hfr
                  go_simp
                  refine Flo.UponC.skip ?_
                  refine Flo.chain_nil ?_
                  clear p1 p2 hfr
                  rw [show (l ++ [(⟨a', b', t⟩ : Road)]).length = l.length + 1 by rw [List.length_append]; rfl] at H14
                  go_wp2
                  go_roundg (kn + 1 - (i + 1))
                  case measure => omega
                  case rel => exact ⟨i + 1, _, _, l ++ [⟨a', b', t⟩], _, t2, rfl, hlt, by rw [List.length_append]; show _ + 1 ≤ _; omega, rfl, rfl, by go_num, HRK, H14⟩
                · rw [if_neg (fun h => han h.2)] at HRK
                  have d3 : decide (a' < N) = false := decide_eq_false han
                  clear hab han
                  go_wp2
                  go_roundg (kn + 1 - (i + 1))
                  case measure => omega
                  case rel => exact ⟨i + 1, _, _, l, v2, t1, rfl, hlt, by omega, rfl, rfl, by go_num, HRK, HS11⟩
          · have hik : i = kn := by omega
            subst hik
            have d0 : decide ((i : Int) < (i : Int)) = false := decide_eq_false (by omega)
            rw [Nat.sub_self] at HRK
            have e1 : l = rf := congrArg Prod.fst HRK.out
            have e2 : s' = s8 := congrArg Prod.snd HRK.out
            clear HRK
            subst e1; subst e2
            go_wp2
            go_meet
            exact ⟨_, HSk.out⟩
  case rest =>
    rename World => w9
    obtain ⟨v2, hs⟩ := hcut
    clear HS8 HRD HB2
    go_step
    exact inst_lim0 w w0 g A c bs rs res k j s8 _ _ _ _ _ _ _ hlen hql HN4.out HM5.out hs HD.out
end
end Go.Proofs.YtbccaabaplbmhaaGreatDoor.L1
namespace Go.Proofs.YtbccaabaplbmhaaGreatDoor.L1
open Go.RowKit Go.Proofs.YtbccaabaplbmhaaGreatDoorW.PrintWords Go.Proofs.YtbccaabaplbmhaaGreatDoor.B
set_option linter.unusedVariables false
set_option linter.unusedSimpArgs false
attribute [local go_sem] mk_cell mk_frozen
section
variable (w : World)
set_option maxRecDepth 1000000 in
set_option maxHeartbeats 16000000 in
theorem inst_reqs (w0 : World) (g : Nat) (A : Option Addr) (c : Nat) (bs : List Int) (rs : Int) (res : Inst × Cu) (k m : Nat) (s : Cu) (vs : List Veh) (v0 : Value) {t1 t2 t3 t4 t5 t10 t11 t12 t13 t14 t15 t16 t17 t18 t19 t20 t21 t22 t23 t24 t25 t26 t27 t28 t29 t30 t31 t32 t33 t34 t35 t36 t37 t38 t39 t40 t41 t42 t43 t44 t45 t46 t47 t48 t49 t50 t51 t52 t53 t54 t55 t56 t57 t58 t59 t60 t61 t62 t63 t64 t65 t66 t67 t68 t69 t70 t71 t72 t73 t74 t75 t76 t77 t78 t79 t80 t81 t82 t83 t84 t85 t86 t87 t88 t89 t90 t91 t92 t93 t94 t95 t96 t97 t98 t99 t100 t101 t102 t103 t104 t105 t106 t107 t108 t109 t110 t111 t112 t113 t114 t115 t116 t117 t118 t119 t120 t121 t122 t123 t124 t125 t126 t127 t128 t129 t130 t131 t132 t133 t134 t135 t136 t137 t138 t139 t140 t141 t142 t143 t144 t145 t146 t147 t148 t149 t150 t151 t152 t153 t154 t155 t156 t157 t158 t159 t160 t161 t162 t163 t164 t165 t166 t167 t168 t169 t170 t171 t172 t173 t174 t175 t176 t177 t178 t179 t180 t181 t182 t183 t184 t185 t186 t187 : Value} (W : World) (hlen : vs.length = k) (hkn : k ≤ 3) (hjn : m ≤ 6) (hS : IP w0 w g A c bs s ⟨vs, [], []⟩ v0 (.slice none 0 0) (.slice none 0 0) [] W) (hD : (bnd (manyD (reqD bs) m [] s) fun qs s7 => bnd (someRoadsD bs ((k : Int) + 2 * (m : Int)) s7) fun rs s8 => bnd (lim0D bs k vs s8) fun vs' s9 => bnd (lim1D bs m qs s9) fun qs' s10 => ((⟨vs', qs', rs⟩, s10) : Inst × Cu)) = res) : Code.wp Tryz.prog (sufAt 20 (Tryz.f10.body.getD .skip)) (bodyPost Tryz.prog Tryz.f10 (InstPost w0 w g A c bs res)) ⟨#[.pointer (some ⟨g, 0, none⟩), t1, t2, t3, t4, t5, .pointer (some ⟨w.heap.size, 0, none⟩), .pointer (some ⟨w.heap.size + 1, 0, none⟩), .int .i64 (k : Int), .int .i64 (m : Int), t10, t11, t12, t13, t14, t15, t16, t17, t18, t19, t20, t21, t22, t23, t24, t25, t26, t27, t28, t29, t30, t31, t32, t33, t34, t35, t36, t37, t38, t39, t40, t41, t42, t43, t44, t45, t46, t47, t48, t49, t50, t51, t52, t53, t54, t55, t56, t57, t58, t59, t60, t61, t62, t63, t64, t65, t66, t67, t68, t69, t70, t71, t72, t73, t74, t75, t76, t77, t78, t79, t80, t81, t82, t83, t84, t85, t86, t87, t88, t89, t90, t91, t92, t93, t94, t95, t96, t97, t98, t99, t100, t101, t102, t103, t104, t105, t106, t107, t108, t109, t110, t111, t112, t113, t114, t115, t116, t117, t118, t119, t120, t121, t122, t123, t124, t125, t126, t127, t128, t129, t130, t131, t132, t133, t134, t135, t136, t137, t138, t139, t140, t141, t142, t143, t144, t145, t146, t147, t148, t149, t150, t151, t152, t153, t154, t155, t156, t157, t158, t159, t160, t161, t162, t163, t164, t165, t166, t167, t168, t169, t170, t171, t172, t173, t174, t175, t176, t177, t178, t179, t180, t181, t182, t183, t184, t185, t186, t187], []⟩ W := by
  have HS5 := Aside0.mk hS; have HM5 := Aside0.mk hjn; clear hS
  obtain ⟨qf, sf, hx, hql⟩ : ∃ qf sf, manyD (reqD bs) m [] s = (qf, sf) ∧ qf.length = m := ⟨_, _, rfl, by rw [manyD_len]; simp⟩
  rw [hx, bnd_mk] at hD
  have HX := Aside0.mk hx; have HD := Aside0.mk hD; clear hx hD
  conv => arg 2; whnf
  dsimp only
  go_step
  go_cut [] from 10 (fun wx => ∃ v1, IP w0 w g A c bs sf ⟨vs, qf, []⟩ v0 v1 (.slice none 0 0) [] wx)
  case first =>
    go_wp2_with fail
    go_loopg [13] (m + 1) (fun q v13 wr => ∃ (j : Nat) (qs : List Req) (v1 : Value) (s7 : Cu), q = m + 1 - j ∧ j ≤ m ∧ qs.length = j ∧ v13 = .int .i64 j ∧ Aside0 (manyD (reqD bs) (m - j) qs s7 = (qf, sf)) ∧ Aside0 (IP w0 w g A c bs s7 ⟨vs, qs, []⟩ v0 v1 (.slice none 0 0) [] wr))
    case atStart => exact ⟨0, [], _, s, by omega, by omega, rfl, rfl, HX, HS5⟩
    case round =>
      obtain ⟨j, qs, v1, s7, rfl, hj, hql, rfl, HDk, HSk⟩ := hrel
      rename World => w7
      clear HX HS5
      by_cases hlt : j < m
      · rw [show m - j = (m - (j + 1)) + 1 by omega] at HDk
        rw [manyD_succ, reqD, bnd_bnd] at HDk
        simp only [bnd_bnd] at HDk
        have d0 : decide ((j : Int) < (m : Int)) = true := decide_eq_true (by omega)
        have q0 : wrap64 ((j : Int) + 1) = (j : Int) + 1 := IntWalk.wrap64_in _ (by have := HM5.out; omega)
        have HB := Aside0.mk (HSk.out.box (.cells #[.int .i64 0, .int .i64 0, .int .i64 0, .int .i64 0, .int .i64 0, .int .i64 0, .int .i64 0, .int .i64 0, .int .i64 0, .int .i64 0, .int .i64 0, .int .i64 0] 48 (0, 0)))
        clear HSk
        go_wp2_with fail
        go_at_call 30
        refine (spec_below _ w0 g A c bs s7 9 (by decide) (by decide) HB.out.fr.cur).mono ?_
        rintro e w8 ⟨rfl, ha⟩
        have H7 := Aside0.mk (HB.out.draw ha); clear ha HB
        generalize belowD bs 9 s7 = r at HDk H7 ⊢
        obtain ⟨a1, t1⟩ := r
        rw [bnd_mk] at HDk
        generalize hV : w7.heap.size = V at H7 ⊢
        clear hV
        obtain ⟨p1, p2⟩ := lay (Below.refl _ _) H7.out.mem
        have H7' := Aside0.mk (H7.out.set 0 (.int .i64 a1)); clear H7
        simp only [List.setIfInBounds_toArray, List.set_cons_zero, List.set_cons_succ] at H7'
        go_wp2_with fail
        clear p1 p2
        go_at_call 31
        refine (spec_tagSet _ w0 g A c bs t1 H7'.out.fr.cur).mono ?_
        rintro e w9 ⟨rfl, ha⟩
        have H8 := Aside0.mk (H7'.out.draw ha); clear ha H7'
        generalize tagSetD bs t1 = r at HDk H8 ⊢
        obtain ⟨a2, t2⟩ := r
        rw [bnd_mk] at HDk
        obtain ⟨p1, p2⟩ := lay (Below.refl _ _) H8.out.mem
        have H8' := Aside0.mk (H8.out.set 1 (.int .i64 a2)); clear H8
        simp only [List.setIfInBounds_toArray, List.set_cons_zero, List.set_cons_succ] at H8'
        go_wp2_with fail
        clear p1 p2
        go_at_call 32
        refine (spec_drawPlace _ w0 g A c bs t2 H8'.out.fr.cur).mono ?_
        rintro e w10 ⟨rfl, ha⟩
        have H9 := Aside0.mk (H8'.out.draw ha); clear ha H8'
        generalize placeD bs t2 = r at HDk H9 ⊢
        obtain ⟨pl, t3⟩ := r
        rw [bnd_mk] at HDk
        unfold Place.val5
        obtain ⟨p1, p2⟩ := lay (Below.refl _ _) H9.out.mem
        have H9' := Aside0.mk (((((H9.out.set 2 (.int .i64 pl.x)).set 3 (.int .i64 pl.y)).set 4 (.int .i64 pl.o)).set 5 (.int .i64 pl.c)).set 6 (.int .i64 pl.h)); clear H9
        simp only [List.setIfInBounds_toArray, List.set_cons_zero, List.set_cons_succ] at H9'
        go_wp2_with fail
        clear p1 p2
        go_at_call 32
        refine (spec_drawPlace _ w0 g A c bs t3 H9'.out.fr.cur).mono ?_
        rintro e w11 ⟨rfl, ha⟩
        have H10 := Aside0.mk (H9'.out.draw ha); clear ha H9'
        generalize placeD bs t3 = r at HDk H10 ⊢
        obtain ⟨pt, t4⟩ := r
        rw [bnd_mk, bnd_mk] at HDk
        unfold Place.val5
        obtain ⟨p1, p2⟩ := lay (Below.refl _ _) H10.out.mem
        have H11 := Aside0.mk (((((H10.out.set 7 (.int .i64 pt.x)).set 8 (.int .i64 pt.y)).set 9 (.int .i64 pt.o)).set 10 (.int .i64 pt.c)).set 11 (.int .i64 pt.h)); clear H10
        simp only [List.setIfInBounds_toArray, List.set_cons_zero, List.set_cons_succ] at H11
        go_upto_region 28 with fail
        clear p1 p2
        generalize (((((w11.setCell ⟨V, 7, none⟩ (.int .i64 pt.x)).setCell ⟨V, 8, none⟩ (.int .i64 pt.y)).setCell ⟨V, 9, none⟩ (.int .i64 pt.o)).setCell ⟨V, 10, none⟩ (.int .i64 pt.c)).setCell ⟨V, 11, none⟩ (.int .i64 pt.h)) = wx at H11 ⊢
        have HX := Aside0.mk (H11.out.drop.on (below_alloc (Below.refl _ _) (.cells #[.int .i64 a1, .int .i64 a2, .int .i64 pl.x, .int .i64 pl.y, .int .i64 pl.o, .int .i64 pl.c, .int .i64 pl.h, .int .i64 pt.x, .int .i64 pt.y, .int .i64 pt.o, .int .i64 pt.c, .int .i64 pt.h] 48)))
        have HN1 := Aside0.mk (flat_lit (d := kReq) rfl wx w.heap.size 48 [⟨a1, a2, pl, pt⟩] H11.out.fr.tch.size (sl_max 1 (by decide)))
        obtain ⟨p1, p2⟩ := lay (Below.refl _ _) H11.out.mem
        obtain ⟨i1, i2⟩ := lay (Below.refl _ _) H11.out.inn
        go_wp2_with (first
          | (refine Kd.flat_append_row kReq rfl (w0 := _) w.heap.size rfl _ _ 24 48 zQ 96 rfl Tryz.underlying24 (by kernel_rfl) (by decide) (by decide) v1 qs [⟨a1, a2, pl, pt⟩] _ _ _ rfl rfl (Kd.R_mono HX.out.r1 (fun _ _ => trivial)) (Kd.R_reads' HN1.out).2.2 (Below.refl _ _) HX.out.fr.tch.size (by have := hql; have := HM5.out; show (_ + 1) * 96 ≤ _; omega) ?_; intro vnew w12 hr hb hg _; clear p1 p2 i1 i2; have hfr := (HX.out.apart HX.out.r1 (by decide) hg).mem 0 rfl; obtain ⟨i1, i2⟩ := lay (Below.refl _ _) hfr; obtain ⟨A3, c3, rfl⟩ := Kd.R_slice hr; have H12 := Aside0.mk (HX.out.app1 hr hg); clear hr hb hg hfr))
        rw [show (qs ++ [(⟨a1, a2, pl, pt⟩ : Req)]).length = j + 1 by rw [List.length_append, hql]; rfl] at H12
        go_roundg (m + 1 - (j + 1))
        case measure => omega
        case rel => exact ⟨j + 1, _, _, t4, rfl, hlt, by rw [List.length_append, hql]; rfl, by go_num, HDk, H12⟩
      · have hjm : j = m := by omega
        subst hjm
        have d0 : decide ((j : Int) < (j : Int)) = false := decide_eq_false (by omega)
        rw [Nat.sub_self] at HDk
        have e1 : qs = qf := congrArg Prod.fst HDk.out
        have e2 : s7 = sf := congrArg Prod.snd HDk.out
        clear HDk
        subst e1; subst e2
        go_wp2
        go_meet
        exact ⟨_, HSk.out⟩
  case rest =>
    obtain ⟨v1, hs⟩ := hcut
    go_step
    exact inst_roads w w0 g A c bs rs res k m sf vs qf _ _ _ hlen hql hkn hjn hs HD.out
end
end Go.Proofs.YtbccaabaplbmhaaGreatDoor.L1
