/- The reference's draws: an instance, walked: its vehicles. The reference's draws: an instance, walked: the whole. The reference's draws: an instance spoilt: what it is, how it lies. The reference's draws: an instance spoilt: the end. The reference's draws: an instance spoilt: the last road once more. The reference's draws: an instance spoilt: a loop. -/
import Derived.Test.YtbccaabaplbmhaaGreatDoorQT10
namespace Go.Proofs.YtbccaabaplbmhaaGreatDoor.L1
open Go.RowKit Go.Proofs.YtbccaabaplbmhaaGreatDoorW.PrintWords Go.Proofs.YtbccaabaplbmhaaGreatDoor.B
set_option linter.unusedVariables false
set_option linter.unusedSimpArgs false
attribute [local go_sem] mk_cell mk_frozen
section
variable (w : World)
set_option maxRecDepth 1000000 in
set_option maxHeartbeats 16000000 in
theorem inst_vehs (w0 : World) (g : Nat) (A : Option Addr) (c : Nat) (bs : List Int) (rs : Int) (res : Inst × Cu) (n m : Nat) (s : Cu) {t1 t2 t3 t4 t5 t10 t11 t12 t13 t14 t15 t16 t17 t18 t19 t20 t21 t22 t23 t24 t25 t26 t27 t28 t29 t30 t31 t32 t33 t34 t35 t36 t37 t38 t39 t40 t41 t42 t43 t44 t45 t46 t47 t48 t49 t50 t51 t52 t53 t54 t55 t56 t57 t58 t59 t60 t61 t62 t63 t64 t65 t66 t67 t68 t69 t70 t71 t72 t73 t74 t75 t76 t77 t78 t79 t80 t81 t82 t83 t84 t85 t86 t87 t88 t89 t90 t91 t92 t93 t94 t95 t96 t97 t98 t99 t100 t101 t102 t103 t104 t105 t106 t107 t108 t109 t110 t111 t112 t113 t114 t115 t116 t117 t118 t119 t120 t121 t122 t123 t124 t125 t126 t127 t128 t129 t130 t131 t132 t133 t134 t135 t136 t137 t138 t139 t140 t141 t142 t143 t144 t145 t146 t147 t148 t149 t150 t151 t152 t153 t154 t155 t156 t157 t158 t159 t160 t161 t162 t163 t164 t165 t166 t167 t168 t169 t170 t171 t172 t173 t174 t175 t176 t177 t178 t179 t180 t181 t182 t183 t184 t185 t186 t187 : Value} (W : World) (hkn : n ≤ 3) (hjn : m ≤ 6) (hS : IP w0 w g A c bs s ⟨[], [], []⟩ (.slice none 0 0) (.slice none 0 0) (.slice none 0 0) [] W) (hD : (bnd (manyD (vehD bs) n [] s) fun vs s6 => bnd (manyD (reqD bs) m [] s6) fun qs s7 => bnd (someRoadsD bs ((n : Int) + 2 * (m : Int)) s7) fun rs s8 => bnd (lim0D bs n vs s8) fun vs' s9 => bnd (lim1D bs m qs s9) fun qs' s10 => ((⟨vs', qs', rs⟩, s10) : Inst × Cu)) = res) : Code.wp Tryz.prog (sufAt 10 (Tryz.f10.body.getD .skip)) (bodyPost Tryz.prog Tryz.f10 (InstPost w0 w g A c bs res)) ⟨#[.pointer (some ⟨g, 0, none⟩), t1, t2, t3, t4, t5, .pointer (some ⟨w.heap.size, 0, none⟩), .pointer (some ⟨w.heap.size + 1, 0, none⟩), .int .i64 (n : Int), .int .i64 (m : Int), t10, t11, t12, t13, t14, t15, t16, t17, t18, t19, t20, t21, t22, t23, t24, t25, t26, t27, t28, t29, t30, t31, t32, t33, t34, t35, t36, t37, t38, t39, t40, t41, t42, t43, t44, t45, t46, t47, t48, t49, t50, t51, t52, t53, t54, t55, t56, t57, t58, t59, t60, t61, t62, t63, t64, t65, t66, t67, t68, t69, t70, t71, t72, t73, t74, t75, t76, t77, t78, t79, t80, t81, t82, t83, t84, t85, t86, t87, t88, t89, t90, t91, t92, t93, t94, t95, t96, t97, t98, t99, t100, t101, t102, t103, t104, t105, t106, t107, t108, t109, t110, t111, t112, t113, t114, t115, t116, t117, t118, t119, t120, t121, t122, t123, t124, t125, t126, t127, t128, t129, t130, t131, t132, t133, t134, t135, t136, t137, t138, t139, t140, t141, t142, t143, t144, t145, t146, t147, t148, t149, t150, t151, t152, t153, t154, t155, t156, t157, t158, t159, t160, t161, t162, t163, t164, t165, t166, t167, t168, t169, t170, t171, t172, t173, t174, t175, t176, t177, t178, t179, t180, t181, t182, t183, t184, t185, t186, t187], []⟩ W := by
  have HS5 := Aside0.mk hS; have HN4 := Aside0.mk hkn; clear hS
  obtain ⟨vf, sf, hx, hvl⟩ : ∃ vf sf, manyD (vehD bs) n [] s = (vf, sf) ∧ vf.length = n := ⟨_, _, rfl, by rw [manyD_len]; simp⟩
  rw [hx, bnd_mk] at hD
  have HX := Aside0.mk hx; have HD := Aside0.mk hD; clear hx hD
  conv => arg 2; whnf
  dsimp only
  go_step
  go_cut [] from 10 (fun wx => ∃ v0, IP w0 w g A c bs sf ⟨vf, [], []⟩ v0 (.slice none 0 0) (.slice none 0 0) [] wx)
  case first =>
    go_wp2_with fail
    go_loopg [10] (n + 1) (fun q v10 wr => ∃ (k : Nat) (vs : List Veh) (v0 : Value) (s' : Cu), q = n + 1 - k ∧ k ≤ n ∧ vs.length = k ∧ v10 = .int .i64 k ∧ Aside0 (manyD (vehD bs) (n - k) vs s' = (vf, sf)) ∧ Aside0 (IP w0 w g A c bs s' ⟨vs, [], []⟩ v0 (.slice none 0 0) (.slice none 0 0) [] wr))
    case atStart => exact ⟨0, [], _, s, by omega, by omega, rfl, rfl, HX, HS5⟩
    case round =>
      obtain ⟨k, vs, v0, s', rfl, hk, hlen, rfl, HDk, HSk⟩ := hrel
      rename World => w6
      clear HX HS5
      by_cases hlt : k < n
      · rw [show n - k = (n - (k + 1)) + 1 by omega] at HDk
        rw [manyD_succ, vehD, bnd_bnd] at HDk
        simp only [bnd_bnd] at HDk
        have d0 : decide ((k : Int) < (n : Int)) = true := decide_eq_true (by omega)
        have q0 : wrap64 ((k : Int) + 1) = (k : Int) + 1 := IntWalk.wrap64_in _ (by have := HN4.out; omega)
        have HB := Aside0.mk (HSk.out.box (.cells #[.int .i64 0, .int .i64 0, .int .i64 0, .int .i64 0, .int .i64 0, .int .i64 0, .int .i64 0] 45 (0, 0)))
        clear HSk
        go_wp2_with fail
        go_at_call 30
        refine (spec_below _ w0 g A c bs s' 16 (by decide) (by decide) HB.out.fr.cur).mono ?_
        rintro e w7 ⟨rfl, ha⟩
        have H7 := Aside0.mk (HB.out.draw ha); clear ha HB
        generalize belowD bs 16 s' = r at HDk H7 ⊢
        obtain ⟨a1, t1⟩ := r
        rw [bnd_mk] at HDk
        generalize hV : w6.heap.size = V at H7 ⊢
        clear hV
        obtain ⟨p1, p2⟩ := lay (Below.refl _ _) H7.out.mem
        have H7' := Aside0.mk (H7.out.set 0 (.int .i64 (wrap64 (6 + a1)))); clear H7
        simp only [List.setIfInBounds_toArray, List.set_cons_zero, List.set_cons_succ] at H7'
        go_wp2_with fail
        clear p1 p2
        go_at_call 30
        refine (spec_below _ w0 g A c bs t1 16 (by decide) (by decide) H7'.out.fr.cur).mono ?_
        rintro e w8 ⟨rfl, ha⟩
        have H8 := Aside0.mk (H7'.out.draw ha); clear ha H7'
        generalize belowD bs 16 t1 = r at HDk H8 ⊢
        obtain ⟨a2, t2⟩ := r
        rw [bnd_mk] at HDk
        obtain ⟨p1, p2⟩ := lay (Below.refl _ _) H8.out.mem
        have H8' := Aside0.mk (H8.out.set 1 (.int .i64 a2)); clear H8
        simp only [List.setIfInBounds_toArray, List.set_cons_zero, List.set_cons_succ] at H8'
        go_wp2_with fail
        clear p1 p2
        go_at_call 31
        refine (spec_tagSet _ w0 g A c bs t2 H8'.out.fr.cur).mono ?_
        rintro e w9 ⟨rfl, ha⟩
        have H9 := Aside0.mk (H8'.out.draw ha); clear ha H8'
        generalize tagSetD bs t2 = r at HDk H9 ⊢
        obtain ⟨a3, t3⟩ := r
        rw [bnd_mk] at HDk
        obtain ⟨p1, p2⟩ := lay (Below.refl _ _) H9.out.mem
        have H9' := Aside0.mk (H9.out.set 1 (.int .i64 (bits .or .i64 a2 a3))); clear H9
        simp only [List.setIfInBounds_toArray, List.set_cons_zero, List.set_cons_succ] at H9'
        go_wp2_with fail
        clear p1 p2
        go_at_call 32
        refine (spec_drawPlace _ w0 g A c bs t3 H9'.out.fr.cur).mono ?_
        rintro e w10 ⟨rfl, ha⟩
        have H10 := Aside0.mk (H9'.out.draw ha); clear ha H9'
        generalize placeD bs t3 = r at HDk H10 ⊢
        obtain ⟨pl, t4⟩ := r
        rw [bnd_mk, bnd_mk] at HDk
        unfold Place.val5
        obtain ⟨p1, p2⟩ := lay (Below.refl _ _) H10.out.mem
        have H11 := Aside0.mk (((((H10.out.set 2 (.int .i64 pl.x)).set 3 (.int .i64 pl.y)).set 4 (.int .i64 pl.o)).set 5 (.int .i64 pl.c)).set 6 (.int .i64 pl.h)); clear H10
        simp only [List.setIfInBounds_toArray, List.set_cons_zero, List.set_cons_succ] at H11
        go_upto_region 19 with fail
        clear p1 p2
        generalize (((((w10.setCell ⟨V, 2, none⟩ (.int .i64 pl.x)).setCell ⟨V, 3, none⟩ (.int .i64 pl.y)).setCell ⟨V, 4, none⟩ (.int .i64 pl.o)).setCell ⟨V, 5, none⟩ (.int .i64 pl.c)).setCell ⟨V, 6, none⟩ (.int .i64 pl.h)) = wx at H11 ⊢
        have HX := Aside0.mk (H11.out.drop.on (below_alloc (Below.refl _ _) (.cells #[.int .i64 (wrap64 (6 + a1)), .int .i64 (bits .or .i64 a2 a3), .int .i64 pl.x, .int .i64 pl.y, .int .i64 pl.o, .int .i64 pl.c, .int .i64 pl.h] 45)))
        have HN1 := Aside0.mk (flat_lit (d := kVeh) rfl wx w.heap.size 45 [⟨wrap64 (6 + a1), bits .or .i64 a2 a3, pl⟩] H11.out.fr.tch.size (sl_max 1 (by decide)))
        obtain ⟨p1, p2⟩ := lay (Below.refl _ _) H11.out.mem
        obtain ⟨i1, i2⟩ := lay (Below.refl _ _) H11.out.inn
        go_wp2_with (first
          | (refine Kd.flat_append_row kVeh rfl (w0 := _) w.heap.size rfl _ _ 23 45 zV 56 rfl Tryz.underlying23 (by kernel_rfl) (by decide) (by decide) v0 vs [⟨wrap64 (6 + a1), bits .or .i64 a2 a3, pl⟩] _ _ _ rfl rfl (Kd.R_mono HX.out.r0 (fun _ _ => trivial)) (Kd.R_reads' HN1.out).2.2 (Below.refl _ _) HX.out.fr.tch.size (by have := hlen; have := HN4.out; show (_ + 1) * 56 ≤ _; omega) ?_; intro vnew w11 hr hb hg _; clear p1 p2 i1 i2; have hfr := (HX.out.apart HX.out.r0 (by decide) hg).mem 0 rfl; obtain ⟨i1, i2⟩ := lay (Below.refl _ _) hfr; obtain ⟨A3, c3, rfl⟩ := Kd.R_slice hr; have H12 := Aside0.mk (HX.out.app0 hr hg); clear hr hb hg hfr))
        rw [show (vs ++ [(⟨wrap64 (6 + a1), bits .or .i64 a2 a3, pl⟩ : Veh)]).length = k + 1 by rw [List.length_append, hlen]; rfl] at H12
        go_roundg (n + 1 - (k + 1))
        case measure => omega
        case rel => exact ⟨k + 1, _, _, t4, rfl, hlt, by rw [List.length_append, hlen]; rfl, by go_num, HDk, H12⟩
      · have hkn : k = n := by omega
        subst hkn
        have d0 : decide ((k : Int) < (k : Int)) = false := decide_eq_false (by omega)
        rw [Nat.sub_self] at HDk
        have e1 : vs = vf := congrArg Prod.fst HDk.out
        have e2 : s' = sf := congrArg Prod.snd HDk.out
        clear HDk
        subst e1; subst e2
        go_wp2
        go_meet
        exact ⟨_, HSk.out⟩
  case rest =>
    obtain ⟨v0, hs⟩ := hcut
    go_step
    exact inst_reqs w w0 g A c bs rs res n m sf vf _ _ hvl hkn hjn hs HD.out
end
end Go.Proofs.YtbccaabaplbmhaaGreatDoor.L1
namespace Go.Proofs.YtbccaabaplbmhaaGreatDoor.L1
open Go.RowKit Go.Proofs.YtbccaabaplbmhaaGreatDoorW.PrintWords Go.Proofs.YtbccaabaplbmhaaGreatDoor.B
set_option linter.unusedVariables false
set_option linter.unusedSimpArgs false
attribute [local go_sem] mk_cell mk_frozen
section
variable (w : World)
set_option maxRecDepth 1000000 in
set_option maxHeartbeats 16000000 in
theorem spec_inst (w0 : World) (g : Nat) (A : Option Addr) (c : Nat) (bs : List Int) (s : Cu) (rs : Int) (hrs : 4 ≤ rs ∧ rs ≤ 6) (hc : CurAt w0 g A c bs s w) : Calls Tryz.prog 10 #[.pointer (some ⟨g, 0, none⟩), .int .i64 3, .int .i64 rs] w (InstPost w0 w g A c bs (instD bs rs s)) := by
  obtain ⟨res, hres⟩ : ∃ res, instD bs rs s = res := ⟨_, rfl⟩
  rw [hres]
  have HD := Aside0.mk hres
  unfold instD at HD
  have HS := Aside0.mk (IP.start hc)
  have HRS := Aside0.mk hrs
  clear hc hres hrs
  go_enter Tryz.func10, Tryz.ntmps10
  go_wp2_with fail
  go_at_call 28
  refine (spec_range _ w0 g A c bs s 1 3 (by decide) (by decide) (by decide) (by decide) HS.out.fr.cur).mono ?_
  rintro e w1 ⟨rfl, ha⟩
  have HS1 := Aside0.mk (HS.out.draw ha); clear ha HS
  have HN := Aside0.mk (rangeD_bd bs 1 3 s (by decide) (by decide) (by decide) (by decide))
  generalize rangeD bs 1 3 s = r at HD HS1 HN ⊢
  obtain ⟨nv, s1⟩ := r
  rw [bnd_mk] at HD
  go_upto_if 28 with (go_at_call 29; refine (spec_once _ w0 g A c bs s1 2 (by decide) (by decide) HS1.out.fr.cur).mono ?_; rintro e w2 ⟨rfl, ha⟩; have HS2 := Aside0.mk (HS1.out.draw ha); clear ha HS1; generalize onceD bs 2 s1 = r at HD HS2 ⊢; obtain ⟨b, s2⟩ := r; rw [bnd_mk] at HD)
  go_cut [9] from 22 (fun v9 wx => ∃ nr s3, v9 = .int .i64 nr ∧ nrD bs b rs s2 = (nr, s3) ∧ (1 ≤ nr ∧ nr ≤ 6) ∧ IP w0 w g A c bs s3 ⟨[], [], []⟩ (.slice none 0 0) (.slice none 0 0) (.slice none 0 0) [] wx)
  case first =>
    cases b
    · go_wp2
      go_meet
      exact ⟨rs, s2, rfl, rfl, by have := HRS.out; omega, HS2.out⟩
    · go_wp2_with fail
      go_at_call 28
      refine (spec_range _ w0 g A c bs s2 1 rs (by decide) (by have := HRS.out; omega) (by have := HRS.out; omega) (by decide) HS2.out.fr.cur).mono ?_
      rintro e w3 ⟨rfl, ha⟩
      have HS3 := Aside0.mk (HS2.out.draw ha); clear ha HS2
      go_wp2_with fail
      go_meet
      exact ⟨_, _, rfl, rfl, by have := rangeD_bd bs 1 rs s2 (by decide) (by have := HRS.out; omega) (by have := HRS.out; omega) (by decide); have := HRS.out; omega, HS3.out⟩
  case rest =>
    rename World => w3
    obtain ⟨nr, s3, rfl, he, hn, hs⟩ := hcut
    rw [he, bnd_mk] at HD
    have HS3 := Aside0.mk hs
    have HM := Aside0.mk hn
    clear hs he hn HS2 HRS
    go_upto_if 33 with (go_at_call 29; refine (spec_once _ w0 g A c bs s3 25 (by decide) (by decide) HS3.out.fr.cur).mono ?_; rintro e w4 ⟨rfl, ha⟩; have HS4 := Aside0.mk (HS3.out.draw ha); clear ha HS3; generalize onceD bs 25 s3 = r at HD HS4 ⊢; obtain ⟨b2, s4⟩ := r; rw [bnd_mk] at HD)
    go_cut [8] from 22 (fun v8 wx => v8 = .int .i64 (zeroD b2 nv) ∧ IP w0 w g A c bs s4 ⟨[], [], []⟩ (.slice none 0 0) (.slice none 0 0) (.slice none 0 0) [] wx)
    case first =>
      cases b2
      · go_wp2
        go_meet
        exact ⟨rfl, HS4.out⟩
      · go_wp2
        go_meet
        exact ⟨rfl, HS4.out⟩
    case rest =>
      rename World => w4
      obtain ⟨rfl, hs⟩ := hcut
      have HN4 := Aside0.mk (show 0 ≤ zeroD b2 nv ∧ zeroD b2 nv ≤ 3 by have := HN.out; unfold zeroD; (try simp only at this); split <;> omega)
      clear HS4 HN
      have HS4 := Aside0.mk hs; clear hs
      generalize zeroD b2 nv = nv' at HD HN4 HS4 ⊢
      clear b2 nv
      go_upto_if 35 with (go_at_call 29; refine (spec_once _ w0 g A c bs s4 25 (by decide) (by decide) HS4.out.fr.cur).mono ?_; rintro e w5 ⟨rfl, ha⟩; have HS5 := Aside0.mk (HS4.out.draw ha); clear ha HS4; generalize onceD bs 25 s4 = r at HD HS5 ⊢; obtain ⟨b3, s5⟩ := r; rw [bnd_mk] at HD)
      go_cut [9] from 22 (fun v9 wx => v9 = .int .i64 (zeroD b3 nr) ∧ IP w0 w g A c bs s5 ⟨[], [], []⟩ (.slice none 0 0) (.slice none 0 0) (.slice none 0 0) [] wx)
      case first =>
        cases b3
        · go_wp2
          go_meet
          exact ⟨rfl, HS5.out⟩
        · go_wp2
          go_meet
          exact ⟨rfl, HS5.out⟩
      case rest =>
        rename World => w5
        obtain ⟨rfl, hs⟩ := hcut
        have HM5 := Aside0.mk (show 0 ≤ zeroD b3 nr ∧ zeroD b3 nr ≤ 6 by have := HM.out; unfold zeroD; split <;> omega)
        clear HS5 HM
        have HS5 := Aside0.mk hs; clear hs
        generalize zeroD b3 nr = nr' at HD HM5 HS5 ⊢
        clear b3 nr
        obtain ⟨n, hn⟩ : ∃ n : Nat, nv' = n := ⟨nv'.toNat, by have := HN4.out; omega⟩
        obtain ⟨m, hm⟩ : ∃ m : Nat, nr' = m := ⟨nr'.toNat, by have := HM5.out; omega⟩
        subst hn; subst hm
        rw [Int.toNat_natCast, Int.toNat_natCast] at HD
        go_step
        exact inst_vehs w w0 g A c bs rs res n m s5 _ (by have := HN4.out; omega) (by have := HM5.out; omega) HS5.out HD.out
end
end Go.Proofs.YtbccaabaplbmhaaGreatDoor.L1
namespace Go.Proofs.YtbccaabaplbmhaaGreatDoor.L1
open Go.RowKit Go.Proofs.YtbccaabaplbmhaaGreatDoorW.PrintWords Go.Proofs.YtbccaabaplbmhaaGreatDoor.B
set_option linter.unusedVariables false
set_option linter.unusedSimpArgs false
attribute [local go_sem] mk_cell mk_frozen
section
variable {w0 w W W' : World} {g : Nat} {A : Option Addr} {c : Nat} {bs : List Int} {s s' : Cu} {L : List (Nat × Obj)}
/-- An instance under way: out, its box, what else lies there, its rows. -/
structure IQ (w0 w : World) (X : List (Nat × Obj)) (bi bo : Nat) (g : Nat) (A : Option Addr) (c : Nat) (bs : List Int) (s : Cu) (x : Inst) (v0 v1 v2 : Value) (E : List (Nat × Obj)) (W : World) : Prop where
  fr : Fr w0 w g A c bs s (E ++ (bi, .cells #[v0, v1, v2] 27 (0, 0)) :: (bo, .cells #[.slice none 0 0, .slice none 0 0, .slice none 0 0] 27 (0, 0)) :: X) W
  r0 : kVeh.R 45 W w.heap.size (fun k => ∀ p ∈ E, k ≠ p.1) v0 x.vs
  r1 : kReq.R 48 W w.heap.size (fun k => ∀ p ∈ E, k ≠ p.1) v1 x.qs
  r2 : kRoad.R 51 W w.heap.size (fun k => ∀ p ∈ E, k ≠ p.1) v2 x.rs
  xt : ∀ p ∈ X, ∃ cs, p.2 = .cells cs 27 (0, 0)
variable {X : List (Nat × Obj)} {bi bo : Nat} {x : Inst} {v0 v1 v2 : Value} {E : List (Nat × Obj)}
theorem IQ.inn (h : IQ w0 w X bi bo g A c bs s x v0 v1 v2 E W) : W.heap[bi]? = some (.cells #[v0, v1, v2] 27 (0, 0)) := h.fr.blk (bi, .cells #[v0, v1, v2] 27 (0, 0)) (by simp)
theorem IQ.out (h : IQ w0 w X bi bo g A c bs s x v0 v1 v2 E W) : W.heap[bo]? = some (.cells #[.slice none 0 0, .slice none 0 0, .slice none 0 0] 27 (0, 0)) := h.fr.blk (bo, .cells #[.slice none 0 0, .slice none 0 0, .slice none 0 0] 27 (0, 0)) (by simp)
theorem IQ.draw (h : IQ w0 w X bi bo g A c bs s x v0 v1 v2 E W) (ha : After w0 g A c bs s' W W') : IQ w0 w X bi bo g A c bs s' x v0 v1 v2 E W' :=
  ⟨h.fr.draw ha, R_tch h.r0 ha.2 h.fr.cur.cur (by decide), R_tch h.r1 ha.2 h.fr.cur.cur (by decide), R_tch h.r2 ha.2 h.fr.cur.cur (by decide), h.xt⟩
theorem IQ.on (h : IQ w0 w X bi bo g A c bs s x v0 v1 v2 E W) (hb : Below W.heap.size W W') : IQ w0 w X bi bo g A c bs s x v0 v1 v2 E W' :=
  ⟨h.fr.on hb, Kd.R_below h.r0 hb, Kd.R_below h.r1 hb, Kd.R_below h.r2 hb, h.xt⟩
theorem IQ.drew (h : IQ w0 w X bi bo g A c bs s x v0 v1 v2 E W) (n : Nat) : IQ w0 w X bi bo g A c bs s x v0 v1 v2 E (W.drewN n) := h.on (pw_below_drewN (Below.refl W.heap.size W) n)
theorem IQ.box (h : IQ w0 w X bi bo g A c bs s x v0 v1 v2 E W) (o : Obj) : IQ w0 w X bi bo g A c bs s x v0 v1 v2 ((W.heap.size, o) :: E) (W.alloc o) := by
  have up : ∀ k, ((∀ p ∈ E, k ≠ p.1) ∧ k < W.heap.size) → ∀ p ∈ (W.heap.size, o) :: E, k ≠ p.1 := fun k hk p hp => by
    rcases List.mem_cons.1 hp with rfl | hp
    · show k ≠ W.heap.size; have := hk.2; omega
    · exact hk.1 p hp
  exact ⟨h.fr.box o, Kd.R_mono (Kd.R_alloc (R_new h.r0) o) up, Kd.R_mono (Kd.R_alloc (R_new h.r1) o) up, Kd.R_mono (Kd.R_alloc (R_new h.r2) o) up, h.xt⟩
/-- A cell of what else lies there. -/
theorem IQ.set {b : Nat} {cs : Array Value} {T : TypeId} (h : IQ w0 w X bi bo g A c bs s x v0 v1 v2 ((b, .cells cs T (0, 0)) :: E) W) (o : Nat) (u : Value) : IQ w0 w X bi bo g A c bs s x v0 v1 v2 ((b, .cells (cs.setIfInBounds o u) T (0, 0)) :: E) (W.setCell ⟨b, o, none⟩ u) := by
  have hb : ∀ k, (∀ p ∈ (b, Obj.cells cs T (0, 0)) :: E, k ≠ p.1) → k ≠ b := fun k hk => hk _ List.mem_cons_self
  have up : ∀ k, (∀ p ∈ (b, Obj.cells cs T (0, 0)) :: E, k ≠ p.1) → ∀ p ∈ (b, Obj.cells (cs.setIfInBounds o u) T (0, 0)) :: E, k ≠ p.1 := fun k hk p hp => by
    rcases List.mem_cons.1 hp with rfl | hp
    · exact hb k hk
    · exact hk p (List.mem_cons_of_mem _ hp)
  exact ⟨h.fr.set 0 rfl o u, Kd.R_mono (R_off h.r0 hb o u) up, Kd.R_mono (R_off h.r1 hb o u) up, Kd.R_mono (R_off h.r2 hb o u) up, h.xt⟩
theorem IQ.mem {b : Nat} {cs : Array Value} {T : TypeId} (h : IQ w0 w X bi bo g A c bs s x v0 v1 v2 ((b, .cells cs T (0, 0)) :: E) W) : W.heap[b]? = some (.cells cs T (0, 0)) := h.fr.mem 0 rfl
theorem IQ.drop (h : IQ w0 w X bi bo g A c bs s x v0 v1 v2 E W) : IQ w0 w X bi bo g A c bs s x v0 v1 v2 [] W := by
  refine ⟨?_, Kd.R_mono h.r0 (by simp), Kd.R_mono h.r1 (by simp), Kd.R_mono h.r2 (by simp), h.xt⟩
  have := h.fr.less E.length
  rwa [List.drop_left] at this
/-- The box and out, when a row has grown. -/
theorem IQ.apart (h : IQ w0 w X bi bo g A c bs s x v0 v1 v2 [] W) {α : Type} {d : Kd α} {e : Nat} {ok : Nat → Prop} {v : Value} {xs : List α} (hv : d.R e W w.heap.size ok v xs) (hT : 27 ≠ e) (hg : W.grownBy W' v.ownBlock) :
    Fr w0 w g A c bs s ((bi, .cells #[v0, v1, v2] 27 (0, 0)) :: (bo, .cells #[.slice none 0 0, .slice none 0 0, .slice none 0 0] 27 (0, 0)) :: X) W' :=
  h.fr.grown hg (base_row hv) fun p hp => by
    simp only [List.nil_append, List.mem_cons, List.not_mem_nil, or_false] at hp
    rcases hp with rfl | rfl | hp
    · exact ne_row hv h.inn hT
    · exact ne_row hv h.out hT
    · obtain ⟨cs, e⟩ := h.xt p hp
      exact ne_row hv (show W.heap[p.1]? = some (.cells cs 27 (0, 0)) from e ▸ h.fr.blk p (by simp [hp])) hT
theorem IQ.app0 {u : Value} {ys : List Veh} (h : IQ w0 w X bi bo g A c bs s x v0 v1 v2 [] W) (hr : kVeh.R 45 W' w.heap.size (fun _ => True) u ys) (hg : W.grownBy W' v0.ownBlock) : IQ w0 w X bi bo g A c bs s ⟨ys, x.qs, x.rs⟩ u v1 v2 [] (W'.setCell ⟨bi, 0, none⟩ u) := by
  have hf := h.apart h.r0 (by decide) hg
  have q1 := R_other h.r1 hg (row_ty h.r0) (by decide); have q2 := R_other h.r2 hg (row_ty h.r0) (by decide)
  have ht := Tch.set (S := fun k => k = bi) (W := W') (b := bi) (o := 0) (v := u) rfl
  have hi := hf.mem 0 rfl
  exact ⟨hf.set 0 rfl 0 u, Kd.R_mono (R_tch hr ht hi (by decide)) (by simp), Kd.R_mono (R_tch q1 ht hi (by decide)) (by simp), Kd.R_mono (R_tch q2 ht hi (by decide)) (by simp), h.xt⟩
theorem IQ.app1 {u : Value} {ys : List Req} (h : IQ w0 w X bi bo g A c bs s x v0 v1 v2 [] W) (hr : kReq.R 48 W' w.heap.size (fun _ => True) u ys) (hg : W.grownBy W' v1.ownBlock) : IQ w0 w X bi bo g A c bs s ⟨x.vs, ys, x.rs⟩ v0 u v2 [] (W'.setCell ⟨bi, 1, none⟩ u) := by
  have hf := h.apart h.r1 (by decide) hg
  have q1 := R_other h.r0 hg (row_ty h.r1) (by decide); have q2 := R_other h.r2 hg (row_ty h.r1) (by decide)
  have ht := Tch.set (S := fun k => k = bi) (W := W') (b := bi) (o := 1) (v := u) rfl
  have hi := hf.mem 0 rfl
  exact ⟨hf.set 0 rfl 1 u, Kd.R_mono (R_tch q1 ht hi (by decide)) (by simp), Kd.R_mono (R_tch hr ht hi (by decide)) (by simp), Kd.R_mono (R_tch q2 ht hi (by decide)) (by simp), h.xt⟩
theorem IQ.app2 {u : Value} {ys : List Road} (h : IQ w0 w X bi bo g A c bs s x v0 v1 v2 [] W) (hr : kRoad.R 51 W' w.heap.size (fun _ => True) u ys) (hg : W.grownBy W' v2.ownBlock) : IQ w0 w X bi bo g A c bs s ⟨x.vs, x.qs, ys⟩ v0 v1 u [] (W'.setCell ⟨bi, 2, none⟩ u) := by
  have hf := h.apart h.r2 (by decide) hg
  have q1 := R_other h.r0 hg (row_ty h.r2) (by decide); have q2 := R_other h.r1 hg (row_ty h.r2) (by decide)
  have ht := Tch.set (S := fun k => k = bi) (W := W') (b := bi) (o := 2) (v := u) rfl
  have hi := hf.mem 0 rfl
  exact ⟨hf.set 0 rfl 2 u, Kd.R_mono (R_tch q1 ht hi (by decide)) (by simp), Kd.R_mono (R_tch q2 ht hi (by decide)) (by simp), Kd.R_mono (R_tch hr ht hi (by decide)) (by simp), h.xt⟩
/-- One row written in place. -/
theorem IQ.put0 {ys : List Veh} (h : IQ w0 w X bi bo g A c bs s x v0 v1 v2 [] W) (hr : kVeh.R 45 W' w.heap.size (fun k => ∀ p ∈ ([] : List (Nat × Obj)), k ≠ p.1) v0 ys) (hg : W.grownBy W' v0.ownBlock) : IQ w0 w X bi bo g A c bs s ⟨ys, x.qs, x.rs⟩ v0 v1 v2 [] W' :=
  ⟨h.apart h.r0 (by decide) hg, hr, Kd.R_mono (R_other h.r1 hg (row_ty h.r0) (by decide)) (by simp), Kd.R_mono (R_other h.r2 hg (row_ty h.r0) (by decide)) (by simp), h.xt⟩
theorem IQ.put1 {ys : List Req} (h : IQ w0 w X bi bo g A c bs s x v0 v1 v2 [] W) (hr : kReq.R 48 W' w.heap.size (fun k => ∀ p ∈ ([] : List (Nat × Obj)), k ≠ p.1) v1 ys) (hg : W.grownBy W' v1.ownBlock) : IQ w0 w X bi bo g A c bs s ⟨x.vs, ys, x.rs⟩ v0 v1 v2 [] W' :=
  ⟨h.apart h.r1 (by decide) hg, Kd.R_mono (R_other h.r0 hg (row_ty h.r1) (by decide)) (by simp), hr, Kd.R_mono (R_other h.r2 hg (row_ty h.r1) (by decide)) (by simp), h.xt⟩
theorem IQ.put2 {ys : List Road} (h : IQ w0 w X bi bo g A c bs s x v0 v1 v2 [] W) (hr : kRoad.R 51 W' w.heap.size (fun k => ∀ p ∈ ([] : List (Nat × Obj)), k ≠ p.1) v2 ys) (hg : W.grownBy W' v2.ownBlock) : IQ w0 w X bi bo g A c bs s ⟨x.vs, x.qs, ys⟩ v0 v1 v2 [] W' :=
  ⟨h.apart h.r2 (by decide) hg, Kd.R_mono (R_other h.r0 hg (row_ty h.r2) (by decide)) (by simp), Kd.R_mono (R_other h.r1 hg (row_ty h.r2) (by decide)) (by simp), hr, h.xt⟩
theorem IQ.start {n : Nat} (hW : W.heap.size = n) (hc : CurAt w0 g A c bs s W) (ht : Tch (fun k => k = g) w W) (hg : g < w.heap.size) (hl : w0.heap.size ≤ w.heap.size) (r0 : kVeh.R 45 W w.heap.size (fun _ => True) v0 x.vs) (r1 : kReq.R 48 W w.heap.size (fun _ => True) v1 x.qs) (r2 : kRoad.R 51 W w.heap.size (fun _ => True) v2 x.rs)
    (hx : ∀ p ∈ X, ∃ cs, p.2 = .cells cs 27 (0, 0)) (hb : ∀ p ∈ X, W.heap[p.1]? = some p.2) (ho : ∀ p ∈ X, w.heap.size ≤ p.1) (hn : X.Pairwise fun p q => p.1 ≠ q.1) :
    IQ w0 w X n (n + 1) g A c bs s x v0 v1 v2 [] ((W.alloc (.cells #[v0, v1, v2] 27)).alloc (.cells #[.slice none 0 0, .slice none 0 0, .slice none 0 0] 27)) := by
  subst hW
  have f0 : Fr w0 w g A c bs s X W := ⟨hc, ht, hb, ho, hn, hg, hl⟩
  have h := (f0.box (.cells #[v0, v1, v2] 27 (0, 0))).box (.cells #[.slice none 0 0, .slice none 0 0, .slice none 0 0] 27 (0, 0))
  simp only [al_size] at h
  have hp := List.pairwise_cons.1 h.nd
  have hq := List.pairwise_cons.1 hp.2
  refine ⟨⟨h.cur, h.tch, fun p hp => h.blk p ?_, fun p hp => h.own p ?_, ?_, hg, hl⟩, Kd.R_mono (Kd.R_alloc (Kd.R_alloc r0 _) _) (by simp), Kd.R_mono (Kd.R_alloc (Kd.R_alloc r1 _) _) (by simp), Kd.R_mono (Kd.R_alloc (Kd.R_alloc r2 _) _) (by simp), hx⟩
  · simp only [List.nil_append, List.mem_cons] at hp ⊢
    rcases hp with hp | hp | hp
    · exact .inr (.inl hp)
    · exact .inl hp
    · exact .inr (.inr hp)
  · simp only [List.nil_append, List.mem_cons] at hp ⊢
    rcases hp with hp | hp | hp
    · exact .inr (.inl hp)
    · exact .inl hp
    · exact .inr (.inr hp)
  · refine List.pairwise_cons.2 ⟨fun p hp' => ?_, List.pairwise_cons.2 ⟨fun p hp' => hp.1 p (List.mem_cons_of_mem _ hp'), hq.2⟩⟩
    rcases List.mem_cons.1 hp' with rfl | hp'
    · exact Ne.symm (hp.1 _ List.mem_cons_self)
    · exact hq.1 p hp'
/-- What an instance's reader leaves, beside what is kept. -/
def InstPostX (w0 w : World) (X : List (Nat × Obj)) (g : Nat) (A : Option Addr) (c : Nat) (bs : List Int) (res : Inst × Cu) (e : Ending) (w' : World) : Prop := InstPost w0 w g A c bs res e w' ∧ ∀ p ∈ X, w'.heap[p.1]? = some p.2
theorem IQ.ends (h : IQ w0 w X bi bo g A c bs s x v0 v1 v2 [] W) (a0 a1 a2 : Value) :
    (((W.setCell ⟨bo, 0, none⟩ a0).setCell ⟨bo, 1, none⟩ a1).setCell ⟨bo, 2, none⟩ a2).heap[bo]? = some (.cells #[a0, a1, a2] 27 (0, 0)) ∧
    After w0 g A c bs s w (((W.setCell ⟨bo, 0, none⟩ a0).setCell ⟨bo, 1, none⟩ a1).setCell ⟨bo, 2, none⟩ a2) ∧
    kVeh.R 45 (((W.setCell ⟨bo, 0, none⟩ a0).setCell ⟨bo, 1, none⟩ a1).setCell ⟨bo, 2, none⟩ a2) w.heap.size (fun _ => True) v0 x.vs ∧
    kReq.R 48 (((W.setCell ⟨bo, 0, none⟩ a0).setCell ⟨bo, 1, none⟩ a1).setCell ⟨bo, 2, none⟩ a2) w.heap.size (fun _ => True) v1 x.qs ∧
    kRoad.R 51 (((W.setCell ⟨bo, 0, none⟩ a0).setCell ⟨bo, 1, none⟩ a1).setCell ⟨bo, 2, none⟩ a2) w.heap.size (fun _ => True) v2 x.rs ∧
    ∀ p ∈ X, (((W.setCell ⟨bo, 0, none⟩ a0).setCell ⟨bo, 1, none⟩ a1).setCell ⟨bo, 2, none⟩ a2).heap[p.1]? = some p.2 := by
  have hb : w.heap.size ≤ bo := h.fr.own (bo, .cells #[.slice none 0 0, .slice none 0 0, .slice none 0 0] 27 (0, 0)) (by simp)
  have hn : g ≠ bo := by have := h.fr.lt; omega
  have hl := Nat.le_trans h.fr.le hb
  have ht : Tch (fun k => k = bo) W (((W.setCell ⟨bo, 0, none⟩ a0).setCell ⟨bo, 1, none⟩ a1).setCell ⟨bo, 2, none⟩ a2) := ((Tch.set (S := fun k => k = bo) rfl).trans (Tch.set rfl)).trans (Tch.set rfl)
  exact ⟨set3h h.out _ _ _, ⟨((h.fr.cur.put hn hl _).put hn hl _).put hn hl _, ((h.fr.tch.fresh hb).fresh hb).fresh hb⟩,
    Kd.R_mono (R_tch h.r0 ht h.out (by decide)) (by simp), Kd.R_mono (R_tch h.r1 ht h.out (by decide)) (by simp), Kd.R_mono (R_tch h.r2 ht h.out (by decide)) (by simp), fun p hp => by
      have hpb : p.1 ≠ bo := by
        have h2 := (List.pairwise_cons.1 (List.pairwise_cons.1 h.fr.nd).2).1 p hp
        exact Ne.symm h2
      exact set_other (set_other (set_other (h.fr.blk p (by simp [hp])) hpb) hpb) hpb⟩
end
section
variable {P : Program} {ops : Array Oper} {rest : List Oper} {o : Oper} {a : Act} {Q : Exit → Act → World → Prop} {W : World}
theorem wpList_store_run (hN : o.dst = none) (hgd : o.guard = none) (t : TypeId) (p x : Operand) (ho : o.op = .store t p x) {q u : Value} {w1 : World} (hp : a.eval p = q) (hx : a.eval x = u) (hrun : (Instr.storeAt t q u).run P W = .ok () w1) (h : wpList P ops Q rest a w1) : wpList P ops Q (o :: rest) a W := by
  refine wpList_plain hgd fun K hK => ?_
  unfold Oper.wp execOp
  simp only [ho, hp, hx, Sem.run_bind, Sem.run_pure, Result.andThen_ok, hrun]
  show K (a.put o.dst undef) _
  rw [hN]
  exact hK a _ h
end
theorem and_no {k a : Int} {p : Prop} [Decidable p] (h : ¬ (k = a ∧ p)) : ((k == a) && decide p) = false := by
  by_cases h1 : k = a
  · rw [decide_eq_false (fun h2 => h ⟨h1, h2⟩), Bool.and_false]
  · rw [show (k == a) = false from beq_false_of_ne h1, Bool.false_and]
/-- One vehicle, one request spoilt. -/
def spV (k : Int) (v : Veh) : Veh := if k = 0 then ⟨1000001, v.skills, v.home⟩ else if k = 1 then ⟨v.room, 65536, v.home⟩ else if k = 2 then ⟨v.room, v.skills, ⟨v.home.x, v.home.y, wrap64 (v.home.c + 1), v.home.c, v.home.h⟩⟩ else ⟨v.room, v.skills, ⟨10001, v.home.y, v.home.o, v.home.c, v.home.h⟩⟩
def spQ (k : Int) (q : Req) : Req := if k = 4 then ⟨-1, q.tags, q.from_, q.to_⟩ else if k = 5 then ⟨q.size, -1, q.from_, q.to_⟩ else if k = 6 then ⟨q.size, q.tags, ⟨q.from_.x, q.from_.y, q.from_.o, 1000001, q.from_.h⟩, q.to_⟩ else ⟨q.size, q.tags, q.from_, ⟨q.to_.x, q.to_.y, q.to_.o, q.to_.c, -1⟩⟩
def sp0 (bs : List Int) (k : Int) (vs : List Veh) (s : Cu) : List Veh × Cu := if k < 4 ∧ 0 < (vs.length : Int) then bnd (belowD bs vs.length s) fun j s1 => (vs.set j.toNat (spV k (vs.getD j.toNat zV)), s1) else (vs, s)
def sp1 (bs : List Int) (k : Int) (qs : List Req) (s : Cu) : List Req × Cu := if (4 ≤ k ∧ k < 8) ∧ 0 < (qs.length : Int) then bnd (belowD bs qs.length s) fun j s1 => (qs.set j.toNat (spQ k (qs.getD j.toNat zQ)), s1) else (qs, s)
def sp8 (k n : Int) (rs : List Road) : List Road := if k = 8 then rs ++ [⟨n, 0, 5⟩] else rs
def sp9 (k n : Int) (rs : List Road) : List Road := if k = 9 then rs ++ [⟨wrap64 (n - 1), wrap64 (n - 1), 5⟩] else rs
def sp10 (k : Int) (rs : List Road) : List Road := if k = 10 ∧ 0 < (rs.length : Int) then rs ++ [rs.getD (rs.length - 1) zR] else rs
def sp11 (k : Int) (rs : List Road) : List Road := if k = 11 ∧ 0 < (rs.length : Int) then rs.set 0 ⟨(rs.getD 0 zR).a, (rs.getD 0 zR).b, 100001⟩ else rs
def spoilD (bs : List Int) (x : Inst) (s : Cu) : Inst × Cu := bnd (belowD bs 12 s) fun k s1 => bnd (sp0 bs k x.vs s1) fun vs s2 => bnd (sp1 bs k x.qs s2) fun qs s3 => (⟨vs, qs, sp11 k (sp10 k (sp9 k ((vs.length : Int) + 2 * (qs.length : Int)) (sp8 k ((vs.length : Int) + 2 * (qs.length : Int)) x.rs)))⟩, s3)
end Go.Proofs.YtbccaabaplbmhaaGreatDoor.L1
namespace Go.Proofs.YtbccaabaplbmhaaGreatDoor.L1
open Go.RowKit Go.Proofs.YtbccaabaplbmhaaGreatDoorW.PrintWords Go.Proofs.YtbccaabaplbmhaaGreatDoor.B
set_option linter.unusedVariables false
set_option linter.unusedSimpArgs false
attribute [local go_sem] mk_cell mk_frozen
section
variable (w : World)
set_option maxRecDepth 1000000 in
set_option maxHeartbeats 16000000 in
theorem spoil_end (w0 : World) (X : List (Nat × Obj)) (bi bo : Nat) (g : Nat) (A : Option Addr) (c : Nat) (bs : List Int) (res : Inst × Cu) (k : Int) (n : Int) (s : Cu) (vs : List Veh) (qs : List Req) (rs : List Road) (v0 v1 v2 : Value) {t1 t2 t6 t7 t8 t9 t11 t12 t13 t14 t15 t16 t17 t18 t19 t20 t21 t22 t23 t24 t25 t26 t27 t28 t29 t30 t31 t32 t33 t34 t35 t36 t37 t38 t39 t40 t41 t42 t43 t44 t45 t46 t47 t48 t49 t50 t51 t52 t53 t54 t55 t56 t57 t58 t59 t60 t61 t62 t63 t64 t65 t66 t67 t68 t69 t70 t71 t72 t73 t74 t75 t76 t77 t78 t79 t80 t81 t82 t83 t84 t85 t86 t87 t88 t89 t90 t91 t92 t93 t94 t95 t96 t97 t98 t99 t100 t101 t102 t103 t104 t105 t106 t107 t108 t109 t110 t111 t112 t113 t114 t115 t116 t117 t118 t119 t120 t121 t122 t123 t124 t125 t126 t127 t128 t129 t130 t131 t132 t133 t134 t135 t136 t137 t138 t139 t140 t141 t142 t143 t144 t145 t146 t147 t148 t149 t150 t151 : Value} (W : World) (hk : 0 ≤ k ∧ k < 12) (hl : rs.length ≤ 100) (hS : IQ w0 w X bi bo g A c bs s ⟨vs, qs, rs⟩ v0 v1 v2 [] W) (hD : ((⟨vs, qs, sp11 k rs⟩, s) : Inst × Cu) = res) : Code.wp Tryz.prog (sufAt 33 (Tryz.f34.body.getD .skip)) (bodyPost Tryz.prog Tryz.f34 (InstPostX w0 w X g A c bs res)) ⟨#[.pointer (some ⟨g, 0, none⟩), t1, t2, .pointer (some ⟨bi, 0, none⟩), .pointer (some ⟨bo, 0, none⟩), .int .i64 k, t6, t7, t8, t9, .int .i64 n, t11, t12, t13, t14, t15, t16, t17, t18, t19, t20, t21, t22, t23, t24, t25, t26, t27, t28, t29, t30, t31, t32, t33, t34, t35, t36, t37, t38, t39, t40, t41, t42, t43, t44, t45, t46, t47, t48, t49, t50, t51, t52, t53, t54, t55, t56, t57, t58, t59, t60, t61, t62, t63, t64, t65, t66, t67, t68, t69, t70, t71, t72, t73, t74, t75, t76, t77, t78, t79, t80, t81, t82, t83, t84, t85, t86, t87, t88, t89, t90, t91, t92, t93, t94, t95, t96, t97, t98, t99, t100, t101, t102, t103, t104, t105, t106, t107, t108, t109, t110, t111, t112, t113, t114, t115, t116, t117, t118, t119, t120, t121, t122, t123, t124, t125, t126, t127, t128, t129, t130, t131, t132, t133, t134, t135, t136, t137, t138, t139, t140, t141, t142, t143, t144, t145, t146, t147, t148, t149, t150, t151], []⟩ W := by
  have HS := Aside0.mk hS; have HD := Aside0.mk hD; have HKB := Aside0.mk hk; have HLB := Aside0.mk hl; clear hS hD hk hl
  conv => arg 2; whnf
  dsimp only
  obtain ⟨A2, c2, rfl⟩ := Kd.R_slice HS.out.r2
  obtain ⟨i1, i2⟩ := lay (Below.refl _ _) HS.out.inn
  go_upto_region 33 with fail
  go_cut [146] from 11 (fun vb wx => vb = .bool ((k == 11) && decide (0 < (rs.length : Int))) ∧ IQ w0 w X bi bo g A c bs s ⟨vs, qs, rs⟩ v0 v1 (.slice A2 rs.length c2) [] wx)
  case first =>
    by_cases h0 : k = 11
    · by_cases h1 : 0 < (rs.length : Int)
      · have f0 : (k == 11) = true := by first | (exact decide_eq_true (by omega)) | (simp; omega) | (simp [*]; done)
        have f1 : decide (k = 11) = true := by first | (exact decide_eq_true (by omega)) | (simp; omega) | (simp [*]; done)
        have f2 : decide (0 < (rs.length : Int)) = true := by first | (exact decide_eq_true (by omega)) | (simp; omega) | (simp [*]; done)
        have f3 : decide ((rs.length : Int) > 0) = true := by first | (exact decide_eq_true (by omega)) | (simp; omega) | (simp [*]; done)
        have P0 := Aside0.mk h0; clear h0
        have P1 := Aside0.mk h1; clear h1
        go_wp2
        all_goals go_meet
        all_goals exact ⟨by have h0 := P0.out; have h1 := P1.out; simp; omega, HS.out⟩
      · have f0 : (k == 11) = true := by first | (exact decide_eq_true (by omega)) | (simp; omega) | (simp [*]; done)
        have f1 : decide (k = 11) = true := by first | (exact decide_eq_true (by omega)) | (simp; omega) | (simp [*]; done)
        have f2 : decide (0 < (rs.length : Int)) = false := by first | (exact decide_eq_false (by omega)) | (simp; omega) | (simp [*]; done)
        have f3 : decide ((rs.length : Int) > 0) = false := by first | (exact decide_eq_false (by omega)) | (simp; omega) | (simp [*]; done)
        have P0 := Aside0.mk h0; clear h0
        have P1 := Aside0.mk h1; clear h1
        go_wp2
        all_goals go_meet
        all_goals exact ⟨by have h0 := P0.out; have h1 := P1.out; simp; omega, HS.out⟩
    · by_cases h1 : 0 < (rs.length : Int)
      · have f0 : (k == 11) = false := by first | (exact decide_eq_false (by omega)) | (simp; omega) | (simp [*]; done)
        have f1 : decide (k = 11) = false := by first | (exact decide_eq_false (by omega)) | (simp; omega) | (simp [*]; done)
        have f2 : decide (0 < (rs.length : Int)) = true := by first | (exact decide_eq_true (by omega)) | (simp; omega) | (simp [*]; done)
        have f3 : decide ((rs.length : Int) > 0) = true := by first | (exact decide_eq_true (by omega)) | (simp; omega) | (simp [*]; done)
        have P0 := Aside0.mk h0; clear h0
        have P1 := Aside0.mk h1; clear h1
        go_wp2
        all_goals go_meet
        all_goals exact ⟨by have h0 := P0.out; have h1 := P1.out; simp; omega, HS.out⟩
      · have f0 : (k == 11) = false := by first | (exact decide_eq_false (by omega)) | (simp; omega) | (simp [*]; done)
        have f1 : decide (k = 11) = false := by first | (exact decide_eq_false (by omega)) | (simp; omega) | (simp [*]; done)
        have f2 : decide (0 < (rs.length : Int)) = false := by first | (exact decide_eq_false (by omega)) | (simp; omega) | (simp [*]; done)
        have f3 : decide ((rs.length : Int) > 0) = false := by first | (exact decide_eq_false (by omega)) | (simp; omega) | (simp [*]; done)
        have P0 := Aside0.mk h0; clear h0
        have P1 := Aside0.mk h1; clear h1
        go_wp2
        all_goals go_meet
        all_goals exact ⟨by have h0 := P0.out; have h1 := P1.out; simp; omega, HS.out⟩
  case rest =>
    rename World => w1
    obtain ⟨rfl, hs⟩ := hcut
    clear HS i1 i2
    have HS := Aside0.mk hs; clear hs
    go_upto_if 146 with fail
    go_cut [] from 11 (fun wx => ∃ v2, IQ w0 w X bi bo g A c bs s ⟨vs, qs, sp11 k rs⟩ v0 v1 v2 [] wx)
    case first =>
      by_cases hb : k = 11 ∧ 0 < (rs.length : Int)
      · rw [show ((k == 11) && decide (0 < (rs.length : Int))) = true by simp; omega]
        have HB := Aside0.mk hb; clear hb
        obtain ⟨g3, cap3, hv, _⟩ := Kd.R_form HS.out.r2 (by have := HB.out; show 0 < rs.length; omega)
        simp only [Value.slice.injEq] at hv
        obtain ⟨rfl, _, rfl⟩ := hv
        obtain ⟨w2, hrun, hr, hg⟩ := Kd.flat_seg_run (P := Tryz.prog) kRoad rfl 2 (o' := 2) 0 2 (.int .i64 100001) [.int .i64 100001] (rs.getD 0 zR) ⟨(rs.getD 0 zR).a, (rs.getD 0 zR).b, 100001⟩ zR _ rfl rfl (by kernel_rfl) (by intro q hq; simp only [List.mem_singleton] at hq; subst hq; rfl) HS.out.r2 (by have := HB.out; omega) (by show 2 + 1 ≤ 3; decide) rfl rfl
        have H2 := Aside0.mk (HS.out.put2 hr hg); have HRUN := Aside0.mk hrun; clear hr hg hrun
        obtain ⟨i1, i2⟩ := lay (Below.refl _ _) HS.out.inn
        have hlz : 0 < rs.length := by have := HB.out; omega
        have hcm : (0 : Int) < (rs.length : Int) := by omega
        go_wp2_with ((with_reducible refine gate_store (t := 2) (p := 150) rfl ?_); refine wpList_store_run rfl rfl 2 _ _ rfl rfl rfl HRUN.out ?_; clear i1 i2)
        go_meet
        exact ⟨_, by unfold sp11; rw [if_pos HB.out]; exact H2.out⟩
      · rw [and_no (k := k) (a := 11) hb]
        have HB := Aside0.mk hb; clear hb
        go_wp2
        go_meet
        exact ⟨_, by unfold sp11; rw [if_neg HB.out]; exact HS.out⟩
    case rest =>
      rename World => w2
      obtain ⟨v2', hs⟩ := hcut
      clear HS
      have HS := Aside0.mk hs; clear hs
      obtain ⟨A0, c0, rfl⟩ := Kd.R_slice HS.out.r0
      obtain ⟨A1, c1, rfl⟩ := Kd.R_slice HS.out.r1
      obtain ⟨A2, c2, rfl⟩ := Kd.R_slice HS.out.r2
      obtain ⟨i1, i2⟩ := lay (Below.refl _ _) HS.out.inn
      obtain ⟨o1, o2⟩ := lay (Below.refl _ _) HS.out.out
      go_wp2
      clear i1 i2 o1 o2
      obtain ⟨hz, ha, r0, r1, r2, hx⟩ := HS.out.ends (.slice A0 vs.length c0) (.slice A1 qs.length c1) (.slice A2 (sp11 k rs).length c2)
      have e := HD.out
      subst e
      exact bodyPost_ret (results_cell Tryz.results34 rfl hz Tryz.underlying27 rfl (by kernel_rfl)) rfl ⟨⟨_, _, _, rfl, ha, r0, r1, r2⟩, hx⟩
end
end Go.Proofs.YtbccaabaplbmhaaGreatDoor.L1
namespace Go.Proofs.YtbccaabaplbmhaaGreatDoor.L1
open Go.RowKit Go.Proofs.YtbccaabaplbmhaaGreatDoorW.PrintWords Go.Proofs.YtbccaabaplbmhaaGreatDoor.B
set_option linter.unusedVariables false
set_option linter.unusedSimpArgs false
attribute [local go_sem] mk_cell mk_frozen
theorem road_cells {W : World} {e base g3 n cap ln : Nat} {ok : Nat → Prop} {rs : List Road} {y : Road} (h : kRoad.R e W base ok (.slice (some ⟨g3, 0, none⟩) n cap) rs) (hl : ln < rs.length) (hy : rs.getD ln zR = y) : W.cell? ⟨g3, ln * 3, none⟩ = some (.int .i64 y.a) ∧ W.cell? ⟨g3, ln * 3 + 1, none⟩ = some (.int .i64 y.b) ∧ W.cell? ⟨g3, ln * 3 + 2, none⟩ = some (.int .i64 y.t) := by
  have hn := (Kd.R_reads' h).1
  subst hn
  obtain ⟨ad, e0, h0, h1⟩ := Kd.flat_cells (d := kRoad) rfl (Kd.R_reads' h).2.2 zR ln hl
  cases e0
  rw [hy] at h0 h1
  exact ⟨by (have h := h0 _ rfl; rw [Addr.add_lit, Nat.zero_add] at h; exact h), cell_shift (h1 0 _ rfl) rfl, cell_shift (h1 1 _ rfl) rfl⟩
section
variable (w : World)
set_option maxRecDepth 1000000 in
set_option maxHeartbeats 16000000 in
theorem spoil10 (w0 : World) (X : List (Nat × Obj)) (bi bo : Nat) (g : Nat) (A : Option Addr) (c : Nat) (bs : List Int) (res : Inst × Cu) (k : Int) (n : Int) (s : Cu) (vs : List Veh) (qs : List Req) (rs : List Road) (v0 v1 v2 : Value) {t1 t2 t6 t7 t8 t9 t11 t12 t13 t14 t15 t16 t17 t18 t19 t20 t21 t22 t23 t24 t25 t26 t27 t28 t29 t30 t31 t32 t33 t34 t35 t36 t37 t38 t39 t40 t41 t42 t43 t44 t45 t46 t47 t48 t49 t50 t51 t52 t53 t54 t55 t56 t57 t58 t59 t60 t61 t62 t63 t64 t65 t66 t67 t68 t69 t70 t71 t72 t73 t74 t75 t76 t77 t78 t79 t80 t81 t82 t83 t84 t85 t86 t87 t88 t89 t90 t91 t92 t93 t94 t95 t96 t97 t98 t99 t100 t101 t102 t103 t104 t105 t106 t107 t108 t109 t110 t111 t112 t113 t114 t115 t116 t117 t118 t119 t120 t121 t122 t123 t124 t125 t126 t127 t128 t129 t130 t131 t132 t133 t134 t135 t136 t137 t138 t139 t140 t141 t142 t143 t144 t145 t146 t147 t148 t149 t150 t151 : Value} (W : World) (hk : 0 ≤ k ∧ k < 12) (hl : rs.length ≤ 99) (hS : IQ w0 w X bi bo g A c bs s ⟨vs, qs, rs⟩ v0 v1 v2 [] W) (hD : ((⟨vs, qs, sp11 k (sp10 k rs)⟩, s) : Inst × Cu) = res) : Code.wp Tryz.prog (sufAt 31 (Tryz.f34.body.getD .skip)) (bodyPost Tryz.prog Tryz.f34 (InstPostX w0 w X g A c bs res)) ⟨#[.pointer (some ⟨g, 0, none⟩), t1, t2, .pointer (some ⟨bi, 0, none⟩), .pointer (some ⟨bo, 0, none⟩), .int .i64 k, t6, t7, t8, t9, .int .i64 n, t11, t12, t13, t14, t15, t16, t17, t18, t19, t20, t21, t22, t23, t24, t25, t26, t27, t28, t29, t30, t31, t32, t33, t34, t35, t36, t37, t38, t39, t40, t41, t42, t43, t44, t45, t46, t47, t48, t49, t50, t51, t52, t53, t54, t55, t56, t57, t58, t59, t60, t61, t62, t63, t64, t65, t66, t67, t68, t69, t70, t71, t72, t73, t74, t75, t76, t77, t78, t79, t80, t81, t82, t83, t84, t85, t86, t87, t88, t89, t90, t91, t92, t93, t94, t95, t96, t97, t98, t99, t100, t101, t102, t103, t104, t105, t106, t107, t108, t109, t110, t111, t112, t113, t114, t115, t116, t117, t118, t119, t120, t121, t122, t123, t124, t125, t126, t127, t128, t129, t130, t131, t132, t133, t134, t135, t136, t137, t138, t139, t140, t141, t142, t143, t144, t145, t146, t147, t148, t149, t150, t151], []⟩ W := by
  have HS := Aside0.mk hS; have HD := Aside0.mk hD; have HKB := Aside0.mk hk; have HLB := Aside0.mk hl; clear hS hD hk hl
  conv => arg 2; whnf
  dsimp only
  obtain ⟨A2, c2, rfl⟩ := Kd.R_slice HS.out.r2
  obtain ⟨i1, i2⟩ := lay (Below.refl _ _) HS.out.inn
  go_upto_region 31 with fail
  go_cut [125] from 11 (fun vb wx => vb = .bool ((k == 10) && decide (0 < (rs.length : Int))) ∧ IQ w0 w X bi bo g A c bs s ⟨vs, qs, rs⟩ v0 v1 (.slice A2 rs.length c2) [] wx)
  case first =>
    by_cases h0 : k = 10
    · by_cases h1 : 0 < (rs.length : Int)
      · have f0 : (k == 10) = true := by first | (exact decide_eq_true (by omega)) | (simp; omega) | (simp [*]; done)
        have f1 : decide (k = 10) = true := by first | (exact decide_eq_true (by omega)) | (simp; omega) | (simp [*]; done)
        have f2 : decide (0 < (rs.length : Int)) = true := by first | (exact decide_eq_true (by omega)) | (simp; omega) | (simp [*]; done)
        have f3 : decide ((rs.length : Int) > 0) = true := by first | (exact decide_eq_true (by omega)) | (simp; omega) | (simp [*]; done)
        have P0 := Aside0.mk h0; clear h0
        have P1 := Aside0.mk h1; clear h1
        go_wp2
        all_goals go_meet
        all_goals exact ⟨by have h0 := P0.out; have h1 := P1.out; simp; omega, HS.out⟩
      · have f0 : (k == 10) = true := by first | (exact decide_eq_true (by omega)) | (simp; omega) | (simp [*]; done)
        have f1 : decide (k = 10) = true := by first | (exact decide_eq_true (by omega)) | (simp; omega) | (simp [*]; done)
        have f2 : decide (0 < (rs.length : Int)) = false := by first | (exact decide_eq_false (by omega)) | (simp; omega) | (simp [*]; done)
        have f3 : decide ((rs.length : Int) > 0) = false := by first | (exact decide_eq_false (by omega)) | (simp; omega) | (simp [*]; done)
        have P0 := Aside0.mk h0; clear h0
        have P1 := Aside0.mk h1; clear h1
        go_wp2
        all_goals go_meet
        all_goals exact ⟨by have h0 := P0.out; have h1 := P1.out; simp; omega, HS.out⟩
    · by_cases h1 : 0 < (rs.length : Int)
      · have f0 : (k == 10) = false := by first | (exact decide_eq_false (by omega)) | (simp; omega) | (simp [*]; done)
        have f1 : decide (k = 10) = false := by first | (exact decide_eq_false (by omega)) | (simp; omega) | (simp [*]; done)
        have f2 : decide (0 < (rs.length : Int)) = true := by first | (exact decide_eq_true (by omega)) | (simp; omega) | (simp [*]; done)
        have f3 : decide ((rs.length : Int) > 0) = true := by first | (exact decide_eq_true (by omega)) | (simp; omega) | (simp [*]; done)
        have P0 := Aside0.mk h0; clear h0
        have P1 := Aside0.mk h1; clear h1
        go_wp2
        all_goals go_meet
        all_goals exact ⟨by have h0 := P0.out; have h1 := P1.out; simp; omega, HS.out⟩
      · have f0 : (k == 10) = false := by first | (exact decide_eq_false (by omega)) | (simp; omega) | (simp [*]; done)
        have f1 : decide (k = 10) = false := by first | (exact decide_eq_false (by omega)) | (simp; omega) | (simp [*]; done)
        have f2 : decide (0 < (rs.length : Int)) = false := by first | (exact decide_eq_false (by omega)) | (simp; omega) | (simp [*]; done)
        have f3 : decide ((rs.length : Int) > 0) = false := by first | (exact decide_eq_false (by omega)) | (simp; omega) | (simp [*]; done)
        have P0 := Aside0.mk h0; clear h0
        have P1 := Aside0.mk h1; clear h1
        go_wp2
        all_goals go_meet
        all_goals exact ⟨by have h0 := P0.out; have h1 := P1.out; simp; omega, HS.out⟩
  case rest =>
    rename World => w1
    obtain ⟨rfl, hs⟩ := hcut
    clear HS i1 i2
    have HS := Aside0.mk hs; clear hs
    go_upto_if 125 with fail
    go_cut [] from 11 (fun wx => ∃ v2, IQ w0 w X bi bo g A c bs s ⟨vs, qs, sp10 k rs⟩ v0 v1 v2 [] wx)
    case first =>
      by_cases hb : k = 10 ∧ 0 < (rs.length : Int)
      · rw [show ((k == 10) && decide (0 < (rs.length : Int))) = true by simp; omega]
        have HB := Aside0.mk hb; clear hb
        obtain ⟨g3, cap3, hv, _⟩ := Kd.R_form HS.out.r2 (by have := HB.out; show 0 < rs.length; omega)
        simp only [Value.slice.injEq] at hv
        obtain ⟨rfl, _, rfl⟩ := hv
        obtain ⟨ln, hln⟩ : ∃ ln : Nat, ln = rs.length - 1 := ⟨_, rfl⟩
        have HLN := Aside0.mk (show ln < rs.length by have := HB.out; omega)
        have q0 : IntKind.i64.wrap ((rs.length : Int) - 1) = (ln : Int) := by have h1 := HLB.out; have h2 := HB.out; rw [IntKind.wrap_i64]; omega
        have hlz := HLN.out
        have hcm : 0 ≤ (ln : Int) ∧ (ln : Int) < (rs.length : Int) := by omega
        have HE := Aside0.mk hln; clear hln
        obtain ⟨y, hy⟩ : ∃ y, rs.getD ln zR = y := ⟨_, rfl⟩
        have HY := Aside0.mk hy; clear hy
        go_upto_region 32 with fail
        refine Flo.wp_region_floatM [false, false, false, false, false, false, false, false, false, false, true, true, true, true] 11 (fun wx => ∃ s, IQ w0 w X bi bo g A c bs s ⟨vs, qs, rs⟩ v0 v1 (.slice (some ⟨g3, 0, none⟩) rs.length c2) [] wx) (by kernel_rfl) (by kernel_rfl) ?_
        repeat (first
          | (refine Flo.lexE_do _ (by intro W hj; obtain ⟨_, hj⟩ := hj; obtain ⟨i1, i2⟩ := lay (Below.refl _ _) hj.inn; obtain ⟨c0, c1, c2⟩ := road_cells hj.r2 HLN.out HY.out; go_simp; exact Flo.UponE.val) ?_; refine Flo.lexE_norm (fun K hK => ?_); go_simp; refine hK _ ?_; clear hK K)
          | (refine Flo.lexE_pass ?_; refine Flo.lexE_norm (fun K hK => ?_); go_simp; refine hK _ ?_; clear hK K))
        refine Flo.lexE_nil ?_
        dsimp only [Flo.chainOf]
        have HS' := Aside0.mk (HS.out.drew 1); clear HS hlz hcm q0
        refine Flo.chain_do ⟨_, HS'.out⟩ ?_
        go_simp
        refine Flo.UponC.val ?_
        refine Flo.chain_norm (fun K hK => ?_); go_simp; refine hK _ _ ?_; clear hK K
        have HX := Aside0.mk (HS'.out.on (below_alloc (Below.refl _ _) (.cells #[.int .i64 y.a, .int .i64 y.b, .int .i64 y.t] 51)))
        have HN1 := Aside0.mk (flat_lit (d := kRoad) rfl _ w.heap.size 51 [y] HS'.out.fr.tch.size (sl_max 1 (by decide)))
        refine Flo.chain_do ⟨_, HX.out⟩ ?_
        obtain ⟨vn, w13, hrun, hr, _, hg, _⟩ := Kd.flat_append_run (P := Tryz.prog) kRoad rfl (w0 := _) w.heap.size 25 51 zR 24 25 Tryz.underlying25 (by kernel_rfl) (by decide) (by decide) (.slice (some ⟨g3, 0, none⟩) rs.length c2) rs [y] _ _ _ (Kd.R_mono HX.out.r2 (fun _ _ => trivial)) (Kd.R_reads' HN1.out).2.2 (Below.refl _ _) HX.out.fr.tch.size (by have := HLB.out; show (_ + 1) * 24 ≤ _; omega)
        refine Flo.append_run _ _ rfl rfl rfl hrun ?_
        obtain ⟨A3, c3, rfl⟩ := Kd.R_slice hr
        have hfr := (HX.out.apart HX.out.r2 (by decide) hg).mem 0 rfl
        have H14 := Aside0.mk (HX.out.app2 hr hg)
        clear hr hg hrun HS' HX HN1
        refine Flo.chain_norm (fun K hK => ?_); go_simp; refine hK _ _ ?_; clear hK K
        refine Flo.chain_free (by decide) ?_
        go_simp
        refine Flo.UponC.val ?_
        refine Flo.chain_norm (fun K hK => ?_); go_simp; refine hK _ _ ?_; clear hK K
        refine Flo.chain_free (by decide) ?_
        obtain ⟨i1, i2⟩ := lay (Below.refl _ _) hfr
        go_simp
        refine Flo.UponC.skip ?_
        refine Flo.chain_nil ?_
        clear i1 i2 hfr
        go_wp2
        go_meet
        rw [show (rs ++ [y]).length = rs.length + 1 by rw [List.length_append]; rfl] at H14
        exact ⟨_, by unfold sp10; rw [if_pos HB.out, ← HE.out, HY.out]; exact H14.out⟩
      · rw [and_no (k := k) (a := 10) hb]
        have HB := Aside0.mk hb; clear hb
        go_wp2
        go_meet
        exact ⟨_, by unfold sp10; rw [if_neg HB.out]; exact HS.out⟩
    case rest =>
      rename World => w2
      obtain ⟨v2', hs⟩ := hcut
      go_step
      exact spoil_end w w0 X bi bo g A c bs res k n s vs qs (sp10 k rs) _ _ _ _ HKB.out (by have := HLB.out; unfold sp10; split <;> (try rw [List.length_append]) <;> simp <;> omega) hs HD.out
end
end Go.Proofs.YtbccaabaplbmhaaGreatDoor.L1
namespace Go.Proofs.YtbccaabaplbmhaaGreatDoor.L1
open Go.RowKit Go.Proofs.YtbccaabaplbmhaaGreatDoorW.PrintWords Go.Proofs.YtbccaabaplbmhaaGreatDoor.B
set_option linter.unusedVariables false
set_option linter.unusedSimpArgs false
attribute [local go_sem] mk_cell mk_frozen
section
variable (w : World)
set_option maxRecDepth 1000000 in
set_option maxHeartbeats 16000000 in
theorem spoil9 (w0 : World) (X : List (Nat × Obj)) (bi bo : Nat) (g : Nat) (A : Option Addr) (c : Nat) (bs : List Int) (res : Inst × Cu) (k : Int) (n : Int) (s : Cu) (vs : List Veh) (qs : List Req) (rs : List Road) (v0 v1 v2 : Value) {t1 t2 t6 t7 t8 t9 t11 t12 t13 t14 t15 t16 t17 t18 t19 t20 t21 t22 t23 t24 t25 t26 t27 t28 t29 t30 t31 t32 t33 t34 t35 t36 t37 t38 t39 t40 t41 t42 t43 t44 t45 t46 t47 t48 t49 t50 t51 t52 t53 t54 t55 t56 t57 t58 t59 t60 t61 t62 t63 t64 t65 t66 t67 t68 t69 t70 t71 t72 t73 t74 t75 t76 t77 t78 t79 t80 t81 t82 t83 t84 t85 t86 t87 t88 t89 t90 t91 t92 t93 t94 t95 t96 t97 t98 t99 t100 t101 t102 t103 t104 t105 t106 t107 t108 t109 t110 t111 t112 t113 t114 t115 t116 t117 t118 t119 t120 t121 t122 t123 t124 t125 t126 t127 t128 t129 t130 t131 t132 t133 t134 t135 t136 t137 t138 t139 t140 t141 t142 t143 t144 t145 t146 t147 t148 t149 t150 t151 : Value} (W : World) (hk : 0 ≤ k ∧ k < 12) (hl : rs.length ≤ 98) (hS : IQ w0 w X bi bo g A c bs s ⟨vs, qs, rs⟩ v0 v1 v2 [] W) (hD : ((⟨vs, qs, sp11 k (sp10 k (sp9 k n rs))⟩, s) : Inst × Cu) = res) : Code.wp Tryz.prog (sufAt 29 (Tryz.f34.body.getD .skip)) (bodyPost Tryz.prog Tryz.f34 (InstPostX w0 w X g A c bs res)) ⟨#[.pointer (some ⟨g, 0, none⟩), t1, t2, .pointer (some ⟨bi, 0, none⟩), .pointer (some ⟨bo, 0, none⟩), .int .i64 k, t6, t7, t8, t9, .int .i64 n, t11, t12, t13, t14, t15, t16, t17, t18, t19, t20, t21, t22, t23, t24, t25, t26, t27, t28, t29, t30, t31, t32, t33, t34, t35, t36, t37, t38, t39, t40, t41, t42, t43, t44, t45, t46, t47, t48, t49, t50, t51, t52, t53, t54, t55, t56, t57, t58, t59, t60, t61, t62, t63, t64, t65, t66, t67, t68, t69, t70, t71, t72, t73, t74, t75, t76, t77, t78, t79, t80, t81, t82, t83, t84, t85, t86, t87, t88, t89, t90, t91, t92, t93, t94, t95, t96, t97, t98, t99, t100, t101, t102, t103, t104, t105, t106, t107, t108, t109, t110, t111, t112, t113, t114, t115, t116, t117, t118, t119, t120, t121, t122, t123, t124, t125, t126, t127, t128, t129, t130, t131, t132, t133, t134, t135, t136, t137, t138, t139, t140, t141, t142, t143, t144, t145, t146, t147, t148, t149, t150, t151], []⟩ W := by
  have HS := Aside0.mk hS; have HD := Aside0.mk hD; have HKB := Aside0.mk hk; have HLB := Aside0.mk hl; clear hS hD hk hl
  conv => arg 2; whnf
  dsimp only
  obtain ⟨A2, c2, rfl⟩ := Kd.R_slice HS.out.r2
  obtain ⟨i1, i2⟩ := lay (Below.refl _ _) HS.out.inn

  go_upto_if 107 with fail
  go_cut [] from 11 (fun wx => ∃ v2, IQ w0 w X bi bo g A c bs s ⟨vs, qs, sp9 k n rs⟩ v0 v1 v2 [] wx)
  case first =>
    by_cases hb : k = 9
    · rw [show (k == 9) = true from beq_iff_eq.2 hb]
      have HB := Aside0.mk hb; clear hb
      go_upto_region 30 with fail
      have HX := Aside0.mk (HS.out.on (below_alloc (Below.refl _ _) (.cells #[.int .i64 (wrap64 (n - 1)), .int .i64 (wrap64 (n - 1)), .int .i64 5] 51)))
      have HN1 := Aside0.mk (flat_lit (d := kRoad) rfl W w.heap.size 51 [⟨wrap64 (n - 1), wrap64 (n - 1), 5⟩] HS.out.fr.tch.size (sl_max 1 (by decide)))
      go_wp2_with (first
        | (refine Kd.flat_append_row kRoad rfl (w0 := _) w.heap.size rfl _ _ 25 51 zR 24 rfl Tryz.underlying25 (by kernel_rfl) (by decide) (by decide) (.slice A2 rs.length c2) rs [⟨wrap64 (n - 1), wrap64 (n - 1), 5⟩] _ _ _ rfl rfl (Kd.R_mono HX.out.r2 (fun _ _ => trivial)) (Kd.R_reads' HN1.out).2.2 (Below.refl _ _) HX.out.fr.tch.size (by have := HLB.out; show (_ + 1) * 24 ≤ _; omega) ?_; intro vnew w12 hr hb hg _; clear i1 i2; have hfr := (HX.out.apart HX.out.r2 (by decide) hg).mem 0 rfl; obtain ⟨i1, i2⟩ := lay (Below.refl _ _) hfr; obtain ⟨A3, c3, rfl⟩ := Kd.R_slice hr; have H12 := Aside0.mk (HX.out.app2 hr hg); clear hr hb hg hfr))
      go_meet
      rw [show (rs ++ [(⟨wrap64 (n - 1), wrap64 (n - 1), 5⟩ : Road)]).length = rs.length + 1 by rw [List.length_append]; rfl] at H12
      exact ⟨_, by unfold sp9; rw [if_pos HB.out]; exact H12.out⟩
    · rw [show (k == 9) = false from beq_false_of_ne hb]
      have HB := Aside0.mk hb; clear hb
      go_wp2
      go_meet
      exact ⟨_, by unfold sp9; rw [if_neg HB.out]; exact HS.out⟩
  case rest =>
    rename World => w2
    obtain ⟨v2', hs⟩ := hcut
    go_step
    exact spoil10 w w0 X bi bo g A c bs res k n s vs qs (sp9 k n rs) _ _ _ _ HKB.out (by have := HLB.out; unfold sp9; split <;> (try rw [List.length_append]) <;> simp <;> omega) hs HD.out
end
end Go.Proofs.YtbccaabaplbmhaaGreatDoor.L1
