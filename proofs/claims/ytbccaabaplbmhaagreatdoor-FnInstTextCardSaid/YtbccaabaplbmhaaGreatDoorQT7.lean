/- The reference's draws: a place. The reference's draws: a place, walked. The reference's draws: a place at its limits. Stores into rows and appends, as the chain of a drawn region wants them. A text cut at a byte, as the reference tells it. Tags out of bytes, as the reference tells them. The kind of a line, as the reference tells it. What a numeral is, as the reference tells it. Numerals and numbers, plain: what a numeral spells, and the words that decimal printing gives. The number of a numeral, as the reference reads it (a recursion). What a row of tags is, as the reference tells it. The words of a line; the place that starts at a word, as the reference tells it. What a line is, plain; the words of a line, each as the reference's functions answer of it. -/
import Derived.Test.YtbccaabaplbmhaaGreatDoorQT6
import Derived.Deep.Cut
import Derived.Deep.RegionWith
import Derived.Test.YtbccaabaplbmhaaGreatDoorQT3
import Derived.Laws.BytesArg
import Derived.Lib.ParseIntB
import Derived.Test.YtbccaabaplbmhaaGreatDoorQT4
namespace Go.Proofs.YtbccaabaplbmhaaGreatDoor.L1
open Go.RowKit Go.Proofs.YtbccaabaplbmhaaGreatDoorW.PrintWords Go.Proofs.YtbccaabaplbmhaaGreatDoor.B
set_option linter.unusedVariables false
set_option linter.unusedSimpArgs false
attribute [local go_sem] mk_cell mk_frozen
theorem set_other {W : World} {b k o : Nat} {v : Value} {ob : Obj} (h : W.heap[k]? = some ob) (hn : k ≠ b) : (W.setCell ⟨b, o, none⟩ v).heap[k]? = some ob := (Below.heap_setCell W ⟨b, o, none⟩ v k hn).trans h
theorem tch_in {S : Nat → Prop} {W W1 : World} {k : Nat} {o : Obj} (h : Tch S W W1) (hn : ¬ S k) (hb : W.heap[k]? = some o) : W1.heap[k]? = some o := (h.same k (blk_lt' hb) hn).trans hb
/-- A draw bound. -/
def bnd {α β : Type} (r : α × Cu) (f : α → Cu → β) : β := f r.1 r.2
theorem bnd_mk {α β : Type} (x : α) (s : Cu) (f : α → Cu → β) : bnd (x, s) f = f x s := rfl
theorem Tch.fresh {S : Nat → Prop} {w W : World} {b o : Nat} {v : Value} (h : Tch S w W) (hb : w.heap.size ≤ b) : Tch S w (W.setCell ⟨b, o, none⟩ v) :=
  ⟨by rw [World.size_setCell]; exact h.size, fun k hk hn => (Below.heap_setCell W ⟨b, o, none⟩ v k (fun e => by have : k = b := e; omega)).trans (h.same k hk hn), fun w1 h1 hB => bel_set (h.below w1 h1 hB) (by have := hB.size; omega) v⟩
theorem Tch.draws {S : Nat → Prop} {w W : World} {n : Nat} (h : Tch S w W) : Tch S w (W.drewN n) := h.trans (Tch.of_below (pw_below_drewN (Below.refl W.heap.size W) n))
theorem Tch.box {S : Nat → Prop} {w W : World} {o : Obj} (h : Tch S w W) : Tch S w (W.alloc o) := h.trans (Tch.of_below (below_alloc (Below.refl _ _) _))
theorem CurAt.put {w0 W : World} {g b o : Nat} {A : Option Addr} {c : Nat} {bs : List Int} {s : Cu} (h : CurAt w0 g A c bs s W) (hn : g ≠ b) (hb : w0.heap.size ≤ b) (v : Value) : CurAt w0 g A c bs s (W.setCell ⟨b, o, none⟩ v) :=
  ⟨set_other h.cur hn, bel_set h.below hb v, h.ge, h.row, h.len⟩
theorem CurAt.lt {w0 W : World} {g : Nat} {A : Option Addr} {c : Nat} {bs : List Int} {s : Cu} (h : CurAt w0 g A c bs s W) : g < W.heap.size := blk_lt' h.cur
theorem set5h {W : World} {g : Nat} {T : TypeId} {a b c d e : Value} (h : W.heap[g]? = some (.cells #[a, b, c, d, e] T (0, 0))) (v0 v1 v2 v3 v4 : Value) :
    (((((W.setCell ⟨g, 0, none⟩ v0).setCell ⟨g, 1, none⟩ v1).setCell ⟨g, 2, none⟩ v2).setCell ⟨g, 3, none⟩ v3).setCell ⟨g, 4, none⟩ v4).heap[g]? = some (.cells #[v0, v1, v2, v3, v4] T (0, 0)) :=
  blk_set (blk_set (blk_set (blk_set (blk_set h 0 v0) 1 v1) 2 v2) 3 v3) 4 v4
/-- A place under way: out, its box. -/
structure DP (w0 w : World) (g : Nat) (A : Option Addr) (c : Nat) (bs : List Int) (s : Cu) (p : Place) (W : World) : Prop where
  cur : CurAt w0 g A c bs s W
  tch : Tch (fun k => k = g) w W
  out : W.heap[w.heap.size]? = some (.cells #[.int .i64 0, .int .i64 0, .int .i64 0, .int .i64 0, .int .i64 0] 43 (0, 0))
  box : W.heap[w.heap.size + 1]? = some (.cells #[.int .i64 p.x, .int .i64 p.y, .int .i64 p.o, .int .i64 p.c, .int .i64 p.h] 43 (0, 0))
  lt : g < w.heap.size
  le : w0.heap.size ≤ w.heap.size
section
variable {w0 w W W' : World} {g : Nat} {A : Option Addr} {c : Nat} {bs : List Int} {s s' : Cu} {p : Place}
theorem DP.draw (h : DP w0 w g A c bs s p W) (ha : After w0 g A c bs s' W W') : DP w0 w g A c bs s' p W' :=
  ⟨ha.1, h.tch.trans ha.2, tch_in ha.2 (fun e => by have := h.lt; omega) h.out, tch_in ha.2 (fun e => by have := h.lt; omega) h.box, h.lt, h.le⟩
theorem DP.drew (h : DP w0 w g A c bs s p W) (n : Nat) : DP w0 w g A c bs s p (W.drewN n) :=
  ⟨h.cur.on (pw_below_drewN (Below.refl W.heap.size W) n), h.tch.draws, h.out, h.box, h.lt, h.le⟩
theorem DP.setX (h : DP w0 w g A c bs s p W) (v : Int) : DP w0 w g A c bs s { p with x := v } (W.setCell ⟨w.heap.size + 1, 0, none⟩ (.int .i64 v)) :=
  ⟨h.cur.put (by have := h.lt; omega) (by have := h.le; omega) _, h.tch.fresh (by omega), set_other h.out (by omega), blk_set h.box 0 _, h.lt, h.le⟩
theorem DP.setY (h : DP w0 w g A c bs s p W) (v : Int) : DP w0 w g A c bs s { p with y := v } (W.setCell ⟨w.heap.size + 1, 1, none⟩ (.int .i64 v)) :=
  ⟨h.cur.put (by have := h.lt; omega) (by have := h.le; omega) _, h.tch.fresh (by omega), set_other h.out (by omega), blk_set h.box 1 _, h.lt, h.le⟩
theorem DP.setO (h : DP w0 w g A c bs s p W) (v : Int) : DP w0 w g A c bs s { p with o := v } (W.setCell ⟨w.heap.size + 1, 2, none⟩ (.int .i64 v)) :=
  ⟨h.cur.put (by have := h.lt; omega) (by have := h.le; omega) _, h.tch.fresh (by omega), set_other h.out (by omega), blk_set h.box 2 _, h.lt, h.le⟩
theorem DP.setC (h : DP w0 w g A c bs s p W) (v : Int) : DP w0 w g A c bs s { p with c := v } (W.setCell ⟨w.heap.size + 1, 3, none⟩ (.int .i64 v)) :=
  ⟨h.cur.put (by have := h.lt; omega) (by have := h.le; omega) _, h.tch.fresh (by omega), set_other h.out (by omega), blk_set h.box 3 _, h.lt, h.le⟩
theorem DP.setH (h : DP w0 w g A c bs s p W) (v : Int) : DP w0 w g A c bs s { p with h := v } (W.setCell ⟨w.heap.size + 1, 4, none⟩ (.int .i64 v)) :=
  ⟨h.cur.put (by have := h.lt; omega) (by have := h.le; omega) _, h.tch.fresh (by omega), set_other h.out (by omega), blk_set h.box 4 _, h.lt, h.le⟩
theorem DP.ends (h : DP w0 w g A c bs s p W) : (((((W.setCell ⟨w.heap.size, 0, none⟩ (.int .i64 p.x)).setCell ⟨w.heap.size, 1, none⟩ (.int .i64 p.y)).setCell ⟨w.heap.size, 2, none⟩ (.int .i64 p.o)).setCell ⟨w.heap.size, 3, none⟩ (.int .i64 p.c)).setCell ⟨w.heap.size, 4, none⟩ (.int .i64 p.h)).heap[w.heap.size]? = some (.cells #[.int .i64 p.x, .int .i64 p.y, .int .i64 p.o, .int .i64 p.c, .int .i64 p.h] 43 (0, 0)) ∧
    After w0 g A c bs s w (((((W.setCell ⟨w.heap.size, 0, none⟩ (.int .i64 p.x)).setCell ⟨w.heap.size, 1, none⟩ (.int .i64 p.y)).setCell ⟨w.heap.size, 2, none⟩ (.int .i64 p.o)).setCell ⟨w.heap.size, 3, none⟩ (.int .i64 p.c)).setCell ⟨w.heap.size, 4, none⟩ (.int .i64 p.h)) := by
  have hn : g ≠ w.heap.size := by have := h.lt; omega
  have hl := h.le
  exact ⟨set5h h.out _ _ _ _ _, (((((h.cur.put hn hl _).put hn hl _).put hn hl _).put hn hl _).put hn hl _), (((((h.tch.fresh (Nat.le_refl _)).fresh (Nat.le_refl _)).fresh (Nat.le_refl _)).fresh (Nat.le_refl _)).fresh (Nat.le_refl _))⟩
end
def mayD (b : Bool) (r : Int × Cu) (s : Cu) : Int × Cu := if b = true then r else (0, s)
def placeD (bs : List Int) (s : Cu) : Place × Cu :=
  bnd (rangeD bs (-12) 12 s) fun x s1 => bnd (rangeD bs (-12) 12 s1) fun y s2 => bnd (onceD bs 2 s2) fun b s3 => bnd (mayD b (belowD bs 60 s3) s3) fun o s4 =>
    bnd (belowD bs 110 s4) fun z s5 => bnd (onceD bs 3 s5) fun b2 s6 => bnd (mayD b2 (belowD bs 6 s6) s6) fun h s7 => (⟨x, y, o, IntKind.i64.wrap (IntKind.i64.wrap (o + 25) + z), h⟩, s7)
def Place.val5 (p : Place) : Value := .agg #[.int .i64 p.x, .int .i64 p.y, .int .i64 p.o, .int .i64 p.c, .int .i64 p.h]
end Go.Proofs.YtbccaabaplbmhaaGreatDoor.L1
namespace Go.Proofs.YtbccaabaplbmhaaGreatDoor.L1
open Go.RowKit Go.Proofs.YtbccaabaplbmhaaGreatDoorW.PrintWords Go.Proofs.YtbccaabaplbmhaaGreatDoor.B
set_option linter.unusedVariables false
set_option linter.unusedSimpArgs false
attribute [local go_sem] mk_cell mk_frozen
section
variable (w : World)
set_option maxRecDepth 100000 in
set_option maxHeartbeats 8000000 in
theorem spec_drawPlace (w0 : World) (g : Nat) (A : Option Addr) (c : Nat) (bs : List Int) (s : Cu) (hc : CurAt w0 g A c bs s w) : Calls Tryz.prog 32 #[.pointer (some ⟨g, 0, none⟩)] w fun e w' => e = .returned (placeD bs s).1.val5 ∧ After w0 g A c bs (placeD bs s).2 w w' := by
  obtain ⟨res, hres⟩ : ∃ res, placeD bs s = res := ⟨_, rfl⟩
  rw [hres]
  have HD := Aside0.mk hres
  unfold placeD at HD
  have HS := Aside0.mk (show DP w0 w g A c bs s ⟨0, 0, 0, 0, 0⟩ ((w.alloc (.cells #[.int .i64 0, .int .i64 0, .int .i64 0, .int .i64 0, .int .i64 0] 43)).alloc (.cells #[.int .i64 0, .int .i64 0, .int .i64 0, .int .i64 0, .int .i64 0] 43)) from
    ⟨hc.on (below_alloc (below_alloc (Below.refl _ _) _) _), Tch.box (Tch.box (Tch.refl _ _)), blk_box (al_new w _) _, by have h := al_new (w.alloc (.cells #[.int .i64 0, .int .i64 0, .int .i64 0, .int .i64 0, .int .i64 0] 43)) (.cells #[.int .i64 0, .int .i64 0, .int .i64 0, .int .i64 0, .int .i64 0] 43); rw [al_size] at h; exact h, hc.lt, hc.below.size⟩)
  clear hc hres
  go_enter Tryz.func32, Tryz.ntmps32
  go_wp2_with fail
  go_at_call 28
  refine (spec_range _ w0 g A c bs s (-12) 12 (by decide) (by decide) (by decide) (by decide) HS.out.cur).mono ?_
  rintro e w1 ⟨rfl, ha⟩
  have HS1 := Aside0.mk (HS.out.draw ha); clear ha HS
  generalize rangeD bs (-12) 12 s = r at HD HS1 ⊢
  obtain ⟨x, s1⟩ := r
  rw [bnd_mk] at HD
  have HS1' := Aside0.mk (HS1.out.setX x)
  obtain ⟨p1, p2⟩ := lay (Below.refl _ _) HS1.out.box
  go_wp2_with fail
  clear p1 p2 HS1
  go_at_call 28
  refine (spec_range _ w0 g A c bs s1 (-12) 12 (by decide) (by decide) (by decide) (by decide) HS1'.out.cur).mono ?_
  rintro e w2 ⟨rfl, ha⟩
  have HS2 := Aside0.mk (HS1'.out.draw ha); clear ha HS1'
  generalize rangeD bs (-12) 12 s1 = r at HD HS2 ⊢
  obtain ⟨y, s2⟩ := r
  rw [bnd_mk] at HD
  have HS2' := Aside0.mk (HS2.out.setY y)
  obtain ⟨p1, p2⟩ := lay (Below.refl _ _) HS2.out.box
  go_upto_if 12 with (go_at_call 29; refine (spec_once _ w0 g A c bs s2 2 (by decide) (by decide) HS2'.out.cur).mono ?_; rintro e w3 ⟨rfl, ha⟩; have HS3 := Aside0.mk (HS2'.out.draw ha); clear ha HS2'; generalize onceD bs 2 s2 = r at HD HS3 ⊢; obtain ⟨b, s3⟩ := r; rw [bnd_mk] at HD)
  clear p1 p2 HS2
  go_cut [] from 4 (fun wx => ∃ o s4, mayD b (belowD bs 60 s3) s3 = (o, s4) ∧ DP w0 w g A c bs s4 ⟨x, y, o, 0, 0⟩ wx)
  case first =>
    cases b
    · go_wp2
      go_meet
      exact ⟨0, s3, rfl, HS3.out⟩
    · go_wp2_with fail
      go_at_call 30
      refine (spec_below _ w0 g A c bs s3 60 (by decide) (by decide) HS3.out.cur).mono ?_
      rintro e w4 ⟨rfl, ha⟩
      have HS4 := Aside0.mk (HS3.out.draw ha); clear ha HS3
      obtain ⟨p1, p2⟩ := lay (Below.refl _ _) HS4.out.box
      go_wp2_with fail
      go_meet
      exact ⟨_, _, rfl, HS4.out.setO _⟩
  case rest =>
    rename World => w4
    obtain ⟨o, s4, he, hs⟩ := hcut
    rw [he, bnd_mk] at HD
    have HS4 := Aside0.mk hs
    clear hs he HS3
    generalize hz : belowD bs 110 s4 = r at HD
    obtain ⟨z, s5⟩ := r
    have HZ := Aside0.mk hz; clear hz
    rw [bnd_mk] at HD
    go_wp2_with fail
    refine Flo.wp_region_float [false, false, false, false, true, true, false, true] (fun wx => ∃ s, DP w0 w g A c bs s ⟨x, y, o, 0, 0⟩ wx) (by kernel_rfl) (by kernel_rfl) ?_
    repeat (first
      | (refine Flo.lexE_do _ (by intro W hj; obtain ⟨_, hj⟩ := hj; obtain ⟨p1, p2⟩ := lay (Below.refl _ _) hj.box; go_simp; exact Flo.UponE.val) ?_; refine Flo.lexE_norm (fun K hK => ?_); go_simp; refine hK _ ?_; clear hK K)
      | (refine Flo.lexE_pass ?_; refine Flo.lexE_norm (fun K hK => ?_); go_simp; refine hK _ ?_; clear hK K))
    refine Flo.lexE_nil ?_
    dsimp only [Flo.chainOf]
    have HS4' := Aside0.mk (HS4.out.drew 1)
    refine Flo.chain_do ⟨_, HS4'.out⟩ ?_
    clear HS4
    go_simp
    refine Flo.UponC.enter ?_
    refine (spec_below _ w0 g A c bs s4 110 (by decide) (by decide) HS4'.out.cur).mono ?_
    rintro e w5 ⟨rfl, ha⟩
    have HS5 := Aside0.mk (HS4'.out.draw ha); clear ha HS4'
    rw [HZ.out] at HS5 ⊢
    refine ⟨_, rfl, ?_⟩
    refine Flo.chain_norm (fun K hK => ?_); go_simp; refine hK _ _ ?_; clear hK K
    refine Flo.chain_do ⟨_, HS5.out⟩ ?_
    go_simp
    refine Flo.UponC.val ?_
    refine Flo.chain_norm (fun K hK => ?_); go_simp; refine hK _ _ ?_; clear hK K
    refine Flo.chain_do ⟨_, HS5.out⟩ ?_
    obtain ⟨p1, p2⟩ := lay (Below.refl _ _) HS5.out.box
    go_simp
    refine Flo.UponC.skip ?_
    refine Flo.chain_nil ?_
    have HS6 := Aside0.mk (HS5.out.setC (IntKind.i64.wrap (IntKind.i64.wrap (o + 25) + z))); clear p1 p2 HS5
    generalize w5.setCell ⟨w.heap.size + 1, 3, none⟩ (.int .i64 (IntKind.i64.wrap (IntKind.i64.wrap (o + 25) + z))) = w6 at HS6 ⊢
    generalize IntKind.i64.wrap (IntKind.i64.wrap (o + 25) + z) = cl at HD HS6 ⊢
    go_upto_if 24 with (go_at_call 29; refine (spec_once _ w0 g A c bs s5 3 (by decide) (by decide) HS6.out.cur).mono ?_; rintro e w7 ⟨rfl, ha⟩; have HS7 := Aside0.mk (HS6.out.draw ha); clear ha HS6; generalize onceD bs 3 s5 = r at HD HS7 ⊢; obtain ⟨b2, s6⟩ := r; rw [bnd_mk] at HD)
    go_cut [] from 4 (fun wx => ∃ h s7, mayD b2 (belowD bs 6 s6) s6 = (h, s7) ∧ DP w0 w g A c bs s7 ⟨x, y, o, cl, h⟩ wx)
    case first =>
      cases b2
      · go_wp2
        go_meet
        exact ⟨0, s6, rfl, HS7.out⟩
      · go_wp2_with fail
        go_at_call 30
        refine (spec_below _ w0 g A c bs s6 6 (by decide) (by decide) HS7.out.cur).mono ?_
        rintro e w8 ⟨rfl, ha⟩
        have HS8 := Aside0.mk (HS7.out.draw ha); clear ha HS7
        obtain ⟨p1, p2⟩ := lay (Below.refl _ _) HS8.out.box
        go_wp2_with fail
        go_meet
        exact ⟨_, _, rfl, HS8.out.setH _⟩
    case rest =>
      rename World => w8
      obtain ⟨h, s7, he, hs⟩ := hcut
      rw [he, bnd_mk] at HD
      have HS8 := Aside0.mk hs
      clear hs he HS7
      obtain ⟨p1, p2⟩ := lay (Below.refl _ _) HS8.out.box
      obtain ⟨q1, q2⟩ := lay (Below.refl _ _) HS8.out.out
      go_wp2
      clear p1 p2 q1 q2
      obtain ⟨hz, ha⟩ := HS8.out.ends
      rw [← HD.out]
      exact bodyPost_ret (results_cell Tryz.results32 rfl hz Tryz.underlying43 rfl (by kernel_rfl)) rfl ⟨rfl, ha⟩
end
end Go.Proofs.YtbccaabaplbmhaaGreatDoor.L1
namespace Go.Proofs.YtbccaabaplbmhaaGreatDoor.L1
open Go.RowKit Go.Proofs.YtbccaabaplbmhaaGreatDoorW.PrintWords Go.Proofs.YtbccaabaplbmhaaGreatDoor.B
set_option linter.unusedVariables false
set_option linter.unusedSimpArgs false
attribute [local go_sem] mk_cell mk_frozen
/-- A function that draws, under way: its own blocks. -/
structure Fr (w0 w : World) (g : Nat) (A : Option Addr) (c : Nat) (bs : List Int) (s : Cu) (L : List (Nat × Obj)) (W : World) : Prop where
  cur : CurAt w0 g A c bs s W
  tch : Tch (fun k => k = g) w W
  blk : ∀ p ∈ L, W.heap[p.1]? = some p.2
  own : ∀ p ∈ L, w.heap.size ≤ p.1
  nd : L.Pairwise fun p q => p.1 ≠ q.1
  lt : g < w.heap.size
  le : w0.heap.size ≤ w.heap.size
section
variable {w0 w W W' : World} {g : Nat} {A : Option Addr} {c : Nat} {bs : List Int} {s s' : Cu} {L : List (Nat × Obj)}
theorem Fr.start (h : CurAt w0 g A c bs s w) : Fr w0 w g A c bs s [] w :=
  ⟨h, Tch.refl _ _, by simp, by simp, List.Pairwise.nil, h.lt, h.below.size⟩
theorem Fr.box (h : Fr w0 w g A c bs s L W) (o : Obj) : Fr w0 w g A c bs s ((W.heap.size, o) :: L) (W.alloc o) :=
  ⟨h.cur.on (below_alloc (Below.refl _ _) _), h.tch.box, fun p hp => by
      rcases List.mem_cons.1 hp with rfl | hp
      · exact al_new _ _
      · exact blk_box (h.blk p hp) _,
    fun p hp => by
      rcases List.mem_cons.1 hp with rfl | hp
      · exact h.tch.size
      · exact h.own p hp,
    List.pairwise_cons.2 ⟨fun p hp e => by have := blk_lt' (h.blk p hp); have e' : W.heap.size = p.1 := e; omega, h.nd⟩, h.lt, h.le⟩
theorem Fr.draw (h : Fr w0 w g A c bs s L W) (ha : After w0 g A c bs s' W W') : Fr w0 w g A c bs s' L W' :=
  ⟨ha.1, h.tch.trans ha.2, fun p hp => tch_in ha.2 (fun e => by have := h.own p hp; have := h.lt; omega) (h.blk p hp), h.own, h.nd, h.lt, h.le⟩
theorem Fr.on (h : Fr w0 w g A c bs s L W) (hb : Below W.heap.size W W') : Fr w0 w g A c bs s L W' :=
  ⟨h.cur.on hb, h.tch.trans (Tch.of_below hb), fun p hp => blk_below (h.blk p hp) hb, h.own, h.nd, h.lt, h.le⟩
theorem Fr.drew (h : Fr w0 w g A c bs s L W) (n : Nat) : Fr w0 w g A c bs s L (W.drewN n) := h.on (pw_below_drewN (Below.refl W.heap.size W) n)
theorem Fr.mem {b : Nat} {cs : Array Value} {T : TypeId} (i : Nat) (h : Fr w0 w g A c bs s L W) (hi : L[i]? = some (b, .cells cs T (0, 0))) : W.heap[b]? = some (.cells cs T (0, 0)) := h.blk _ (List.mem_of_getElem? hi)
theorem Fr.set {b : Nat} {cs : Array Value} {T : TypeId} (i : Nat) (h : Fr w0 w g A c bs s L W) (hi : L[i]? = some (b, .cells cs T (0, 0))) (o : Nat) (v : Value) : Fr w0 w g A c bs s (L.set i (b, .cells (cs.setIfInBounds o v) T (0, 0))) (W.setCell ⟨b, o, none⟩ v) := by
  have hb := h.own _ (List.mem_of_getElem? hi)
  have hil : i < L.length := (List.getElem?_eq_some_iff.1 hi).1
  refine ⟨h.cur.put (by have := h.lt; show g ≠ b; have : w.heap.size ≤ b := hb; omega) (Nat.le_trans h.le hb) v, h.tch.fresh hb, fun p hp => ?_, fun p hp => ?_, ?_, h.lt, h.le⟩
  · obtain ⟨j, hj⟩ := List.mem_iff_getElem?.1 hp
    by_cases hij : i = j
    · subst hij
      rw [List.getElem?_set_self hil] at hj
      cases hj
      exact blk_set (h.blk _ (List.mem_of_getElem? hi)) o v
    · rw [List.getElem?_set_ne hij] at hj
      have hne : p.1 ≠ b := by
        rcases Nat.lt_or_gt_of_ne hij with hl | hl
        · exact fun e => (List.pairwise_iff_getElem.1 h.nd i j hil (List.getElem?_eq_some_iff.1 hj).1 hl) (by rw [(List.getElem?_eq_some_iff.1 hi).2, (List.getElem?_eq_some_iff.1 hj).2]; exact e.symm)
        · exact fun e => (List.pairwise_iff_getElem.1 h.nd j i (List.getElem?_eq_some_iff.1 hj).1 hil hl) (by rw [(List.getElem?_eq_some_iff.1 hi).2, (List.getElem?_eq_some_iff.1 hj).2]; exact e)
      exact set_other (h.blk p (List.mem_of_getElem? hj)) hne
  · rcases List.mem_or_eq_of_mem_set hp with hp | rfl
    · exact h.own p hp
    · exact hb
  · have e : (L.set i (b, .cells (cs.setIfInBounds o v) T (0, 0))).map Prod.fst = L.map Prod.fst := by
      have hx : (L.map Prod.fst)[i]? = some b := by rw [List.getElem?_map, hi]; rfl
      rw [List.map_set]
      refine List.ext_getElem? fun j => ?_
      by_cases hj : i = j
      · subst hj; rw [List.getElem?_set_self (by rw [List.length_map]; exact hil), hx]
      · rw [List.getElem?_set_ne hj]
    have h1 : (L.map Prod.fst).Pairwise (· ≠ ·) := List.pairwise_map.2 h.nd
    rw [← e] at h1
    exact List.pairwise_map.1 h1
theorem Fr.after (h : Fr w0 w g A c bs s L W) : After w0 g A c bs s w W := ⟨h.cur, h.tch⟩
theorem Fr.ends5 {b : Nat} {T : TypeId} {a0 a1 a2 a3 a4 : Value} (i : Nat) (h : Fr w0 w g A c bs s L W) (hi : L[i]? = some (b, .cells #[a0, a1, a2, a3, a4] T (0, 0))) (x0 x1 x2 x3 x4 : Value) :
    (((((W.setCell ⟨b, 0, none⟩ x0).setCell ⟨b, 1, none⟩ x1).setCell ⟨b, 2, none⟩ x2).setCell ⟨b, 3, none⟩ x3).setCell ⟨b, 4, none⟩ x4).heap[b]? = some (.cells #[x0, x1, x2, x3, x4] T (0, 0)) ∧
    After w0 g A c bs s w (((((W.setCell ⟨b, 0, none⟩ x0).setCell ⟨b, 1, none⟩ x1).setCell ⟨b, 2, none⟩ x2).setCell ⟨b, 3, none⟩ x3).setCell ⟨b, 4, none⟩ x4) := by
  have hb : w.heap.size ≤ b := h.own _ (List.mem_of_getElem? hi)
  have hn : g ≠ b := by have := h.lt; omega
  have hl := Nat.le_trans h.le hb
  exact ⟨set5h (h.mem i hi) _ _ _ _ _, (((((h.cur.put hn hl _).put hn hl _).put hn hl _).put hn hl _).put hn hl _), (((((h.tch.fresh hb).fresh hb).fresh hb).fresh hb).fresh hb)⟩
end
/-- A place at its limits. -/
def limD (bs : List Int) (p : Place) (s : Cu) : Place × Cu := bnd (belowD bs 5 s) fun k s1 =>
  if k = 0 then (⟨10000, -10000, p.o, p.c, p.h⟩, s1) else if k = 1 then bnd (belowD bs 3 s1) fun z s2 => (⟨p.x, p.y, wrap64 (1000000 - z), 1000000, p.h⟩, s2)
  else if k = 2 then (⟨p.x, p.y, p.o, p.c, 1000000⟩, s1) else if k = 3 then (⟨p.x, p.y, p.o, p.o, p.h⟩, s1) else (⟨-10000, 10000, p.o, p.c, p.h⟩, s1)
section
variable (w : World)
set_option maxRecDepth 100000 in
set_option maxHeartbeats 8000000 in
theorem spec_limits (w0 : World) (g : Nat) (A : Option Addr) (c : Nat) (bs : List Int) (s : Cu) (p : Place) (hc : CurAt w0 g A c bs s w) : Calls Tryz.prog 33 #[.pointer (some ⟨g, 0, none⟩), p.val5] w fun e w' => e = .returned (limD bs p s).1.val5 ∧ After w0 g A c bs (limD bs p s).2 w w' := by
  obtain ⟨res, hres⟩ : ∃ res, limD bs p s = res := ⟨_, rfl⟩
  rw [hres]
  have HD := Aside0.mk hres
  unfold limD at HD
  have HS := Aside0.mk (((Fr.start hc).box (.cells #[.int .i64 p.x, .int .i64 p.y, .int .i64 p.o, .int .i64 p.c, .int .i64 p.h] 43 (0, 0))).box (.cells #[.int .i64 0, .int .i64 0, .int .i64 0, .int .i64 0, .int .i64 0] 43 (0, 0)))
  simp only [al_size] at HS
  have HK := Aside0.mk (belowD_bd bs 5 s (by decide) (by decide))
  unfold Place.val5
  clear hc hres
  go_enter Tryz.func33, Tryz.ntmps33
  go_wp2_with fail
  go_at_call 30
  refine (spec_below _ w0 g A c bs s 5 (by decide) (by decide) HS.out.cur).mono ?_
  rintro e w1 ⟨rfl, ha⟩
  have HS1 := Aside0.mk (HS.out.draw ha); clear ha HS
  generalize belowD bs 5 s = r at HD HS1 HK ⊢
  obtain ⟨k, s1⟩ := r
  rw [bnd_mk] at HD
  have hk : k = 0 ∨ k = 1 ∨ k = 2 ∨ k = 3 ∨ k = 4 := by have := HK.out; simp only at this; omega
  clear HK
  obtain ⟨p1, p2⟩ := lay (Below.refl _ _) (HS1.out.mem 1 rfl)
  obtain ⟨q1, q2⟩ := lay (Below.refl _ _) (HS1.out.mem 0 rfl)
  rcases hk with rfl | rfl | rfl | rfl | rfl
  · go_wp2
    clear p1 p2 q1 q2
    obtain ⟨hz, ha⟩ := ((HS1.out.set 1 rfl 0 (.int .i64 10000)).set 1 rfl 1 (.int .i64 (-10000))).ends5 0 rfl (.int .i64 10000) (.int .i64 (-10000)) (.int .i64 p.o) (.int .i64 p.c) (.int .i64 p.h)
    have e : (⟨10000, -10000, p.o, p.c, p.h⟩, s1) = res := HD.out
    rw [← e]
    exact bodyPost_ret (results_cell Tryz.results33 rfl hz Tryz.underlying43 rfl (by kernel_rfl)) rfl ⟨rfl, ha⟩
  · go_wp2_with fail
    clear p1 p2 q1 q2
    go_at_call 30
    refine (spec_below _ w0 g A c bs s1 3 (by decide) (by decide) (HS1.out.set 1 rfl 3 (.int .i64 1000000)).cur).mono ?_
    rintro e w2 ⟨rfl, ha⟩
    have HS2 := Aside0.mk ((HS1.out.set 1 rfl 3 (.int .i64 1000000)).draw ha); clear ha HS1
    have HD := Aside0.mk (show bnd (belowD bs 3 s1) (fun z s2 => ((⟨p.x, p.y, wrap64 (1000000 - z), 1000000, p.h⟩, s2) : Place × Cu)) = res from HD.out)
    generalize belowD bs 3 s1 = r at HD HS2 ⊢
    obtain ⟨z, s2⟩ := r
    rw [bnd_mk] at HD
    obtain ⟨p1, p2⟩ := lay (Below.refl _ _) (HS2.out.mem 1 rfl)
    obtain ⟨q1, q2⟩ := lay (Below.refl _ _) (HS2.out.mem 0 rfl)
    go_wp2
    clear p1 p2 q1 q2
    obtain ⟨hz, ha⟩ := (HS2.out.set 1 rfl 2 (.int .i64 (wrap64 (1000000 - z)))).ends5 0 rfl (.int .i64 p.x) (.int .i64 p.y) (.int .i64 (wrap64 (1000000 - z))) (.int .i64 1000000) (.int .i64 p.h)
    have e : (⟨p.x, p.y, (wrap64 (1000000 - z)), 1000000, p.h⟩, s2) = res := HD.out
    rw [← e]
    exact bodyPost_ret (results_cell Tryz.results33 rfl hz Tryz.underlying43 rfl (by kernel_rfl)) rfl ⟨rfl, ha⟩
  · go_wp2
    clear p1 p2 q1 q2
    obtain ⟨hz, ha⟩ := (HS1.out.set 1 rfl 4 (.int .i64 1000000)).ends5 0 rfl (.int .i64 p.x) (.int .i64 p.y) (.int .i64 p.o) (.int .i64 p.c) (.int .i64 1000000)
    have e : (⟨p.x, p.y, p.o, p.c, 1000000⟩, s1) = res := HD.out
    rw [← e]
    exact bodyPost_ret (results_cell Tryz.results33 rfl hz Tryz.underlying43 rfl (by kernel_rfl)) rfl ⟨rfl, ha⟩
  · go_wp2
    clear p1 p2 q1 q2
    obtain ⟨hz, ha⟩ := (HS1.out.set 1 rfl 3 (.int .i64 p.o)).ends5 0 rfl (.int .i64 p.x) (.int .i64 p.y) (.int .i64 p.o) (.int .i64 p.o) (.int .i64 p.h)
    have e : (⟨p.x, p.y, p.o, p.o, p.h⟩, s1) = res := HD.out
    rw [← e]
    exact bodyPost_ret (results_cell Tryz.results33 rfl hz Tryz.underlying43 rfl (by kernel_rfl)) rfl ⟨rfl, ha⟩
  · go_wp2
    clear p1 p2 q1 q2
    obtain ⟨hz, ha⟩ := ((HS1.out.set 1 rfl 0 (.int .i64 (-10000))).set 1 rfl 1 (.int .i64 10000)).ends5 0 rfl (.int .i64 (-10000)) (.int .i64 10000) (.int .i64 p.o) (.int .i64 p.c) (.int .i64 p.h)
    have e : (⟨-10000, 10000, p.o, p.c, p.h⟩, s1) = res := HD.out
    rw [← e]
    exact bodyPost_ret (results_cell Tryz.results33 rfl hz Tryz.underlying43 rfl (by kernel_rfl)) rfl ⟨rfl, ha⟩
end
end Go.Proofs.YtbccaabaplbmhaaGreatDoor.L1
set_option linter.unusedVariables false
namespace Go.Proofs.YtbccaabaplbmhaaGreatDoor.Flo
open Go.RowKit Go.Proofs.YtbccaabaplbmhaaGreatDoorW.PrintWords Go.Proofs.YtbccaabaplbmhaaGreatDoor.B Go.Proofs.YtbccaabaplbmhaaGreatDoor.Grow
section
variable {P : Program} {o : Oper} {a : Act} {W : World} {K : Value → World → Prop}
theorem store_run (t : TypeId) (p x : Operand) (ho : o.op = .store t p x) {q u : Value} {w1 : World} (hp : a.eval p = q) (hx : a.eval x = u) (hrun : (Instr.storeAt t q u).run P W = .ok () w1) (h : K undef w1) : UponC P K ((execOp a.eval o).run P W) := by
  unfold execOp
  simp only [ho, hp, hx, Sem.run_bind, Sem.run_pure, Result.andThen_ok, hrun]
  exact h
theorem append_run {t : TypeId} (s x : Operand) (ho : o.op = .call { callee := .builtin .append, args := #[s, x], argTypes := #[t, t] }) {u v u1 : Value} {w1 : World} (hs : a.eval s = u) (hx : a.eval x = v) (hrun : (Builtin.append_ #[t, t] o.type #[u, v]).run P W = .ok u1 w1) (h : K u1 w1) : UponC P K ((execOp a.eval o).run P W) := by
  unfold execOp
  simp only [ho, resolve, invoke, builtin, Sem.run_bind, Sem.run_pure, Result.andThen_ok, List.map_toArray, List.map_cons, List.map_nil, hs, hx, hrun]
  exact h
end
end Go.Proofs.YtbccaabaplbmhaaGreatDoor.Flo
namespace Go.Proofs.YtbccaabaplbmhaaGreatDoor.B
open Go.RowKit Go.Proofs.YtbccaabaplbmhaaGreatDoorW.PrintWords
namespace Kd
open Go.Proofs.YtbccaabaplbmhaaGreatDoorW.PrintWords.Kd
section
variable {α : Type} {n : Nat} {enc : α → List Value} {hn : ∀ x, (enc x).length = n} {h1 : ∀ x, ∀ u ∈ enc x, u.oneCell' = true} {P : Program}
/-- Some cells of one element stored. -/
theorem flat_seg_run (d : Kd α) (hdd : d = flat n enc hn h1) {W : World} {base : Nat} (t : TypeId) {e g m cap o' : Nat} (k j : Nat) {xs : List α} (y : Value) (seg : List Value) (x0 x' z : α) (ok : Nat → Prop)
    (hoff : o' = k * n + j) (hy : y.cells.toList = seg) (ht : (P.info? t).map (·.size) = some seg.length) (hq : ∀ q ∈ seg, q.oneCell' = true)
    (HO : d.R e W base ok (.slice (some ⟨g, 0, none⟩) m cap) xs) (hk : k < m) (hjn : j + seg.length ≤ n) (h0 : xs.getD k z = x0) (hc : enc x' = (enc x0).take j ++ seg ++ (enc x0).drop (j + seg.length)) :
    ∃ w1, (Instr.storeAt t (.pointer (some ⟨g, o', none⟩)) y).run P W = .ok () w1 ∧ d.R e w1 base ok (.slice (some ⟨g, 0, none⟩) m cap) (xs.set k x') ∧ W.grownBy w1 (some g) := by
  subst hdd
  have hC := (R_reads' HO).2.2
  have hm := (R_reads' HO).1
  obtain ⟨ad, e1, hcell⟩ := flat_at hC z k (by omega)
  cases e1
  rw [h0] at hcell
  subst hoff
  obtain ⟨hrow, hg⟩ := R_seg (j := j) (seg := seg) (x' := x') (c := enc x0) (okp := fun _ => False) HO (k : Int) (by omega) (by omega) (hn x0)
    (fun i u hu => by have := hcell i u hu; rw [Addr.add_lit, Nat.zero_add] at this; rw [Int.toNat_natCast]; exact this) (by show j + seg.length ≤ n; exact hjn) (show (enc x0).take j ++ seg ++ (enc x0).drop (j + seg.length) = enc x' from hc.symm) (fun q hq => hq.elim)
  rw [Int.toNat_natCast] at hrow hg
  obtain ⟨_, inner, hown, hr⟩ := HO
  refine ⟨_, ?_, hrow, hg⟩
  rcases hown.2 with ⟨hv, _⟩ | ⟨g', cap', cur, hv, hb, hh, hnc, hcm, hcs, _⟩
  · cases hv
  injection hv with ha _ hc'
  injection ha with ha
  injection ha with hg'
  subst hg'; subst hc'
  refine run_store_run t y seg hh hy ht ?_ hq
  have h2 : k * n + n ≤ m * n := by rw [← Nat.succ_mul]; exact Nat.mul_le_mul_right _ hk
  have h3 : m * n ≤ cap * n := Nat.mul_le_mul_right _ (by omega)
  have h4 : cur.size = cap * n := hcs
  omega
end
end Kd
end Go.Proofs.YtbccaabaplbmhaaGreatDoor.B
namespace Go.Proofs.YtbccaabaplbmhaaGreatDoor.L1
open Go.RowKit Go.Proofs.YtbccaabaplbmhaaGreatDoorW.PrintWords Go.Proofs.YtbccaabaplbmhaaGreatDoor.B
set_option linter.unusedVariables false
set_option linter.unusedSimpArgs false
attribute [local go_sem] mk_cell mk_frozen
/-- The pieces that are done, and the one under way, behind k bytes. -/
def cutTo (sep : Int) (bs : List Int) : Nat → List (List Int) × List Int
  | 0 => ([], [])
  | k + 1 => if bs.getD k 0 = sep then ((cutTo sep bs k).1 ++ [(cutTo sep bs k).2], []) else ((cutTo sep bs k).1, (cutTo sep bs k).2 ++ [bs.getD k 0])
def pieces (sep : Int) (bs : List Int) : List (List Int) := (cutTo sep bs bs.length).1 ++ [(cutTo sep bs bs.length).2]
theorem cutTo_len (sep : Int) (bs : List Int) : ∀ k, (cutTo sep bs k).1.length + (cutTo sep bs k).2.length ≤ k
  | 0 => by simp [cutTo]
  | k + 1 => by
    have := cutTo_len sep bs k
    unfold cutTo
    split
    · simp only [List.length_append, List.length_cons, List.length_nil]; omega
    · simp only [List.length_append, List.length_cons, List.length_nil]; omega
/-- A row is left alone by what grows a row of another type. -/
theorem R_apart {α : Type} {d : Kd α} {e base : Nat} {ok : Nat → Prop} {W W1 : World} {v : Value} {xs : List α} {row : Option Nat} {T' : TypeId} (h : d.R e W base ok v xs) (hg : W.grownBy W1 row) (hrow : ∀ i, row = some i → ∃ (cs : Array Value) (fr : Nat × Nat), W.heap[i]? = some (Obj.cells cs T' fr)) (hne : T' ∉ e :: d.E) : d.R e W1 base (fun _ => True) v xs := by
  refine Kd.R_mono (Kd.R_grown (Kd.R_mono (Kd.R_bound h) (ok' := fun k => some k ≠ row) ?_) hg (fun k hk => hk)) fun _ _ => trivial
  rintro k ⟨_, _, _, q, hq, cells, hc⟩ he
  obtain ⟨cs, fr, h2⟩ := hrow k he.symm
  rw [hc] at h2
  cases h2
  exact hne hq
/-- The forms of the pieces: their rooms, and that their rows begin a block. -/
def Fit : List Sl → List (List Int) → Prop
  | [], [] => True
  | p :: ps, f :: fs => (f.length ≤ p.c ∧ ((p.A = none ∧ f = []) ∨ ∃ b, p.A = some ⟨b, 0, none⟩)) ∧ Fit ps fs
  | _, _ => False
theorem Fit.append : ∀ {ps : List Sl} {fs : List (List Int)} {qs : List Sl} {gs : List (List Int)}, Fit ps fs → Fit qs gs → Fit (ps ++ qs) (fs ++ gs)
  | [], [], _, _, _, h => h
  | p :: ps, f :: fs, qs, gs, h, h2 => ⟨h.1, Fit.append h.2 h2⟩
theorem Fit.at : ∀ {ps : List Sl} {fs : List (List Int)}, Fit ps fs → ∀ j, j < fs.length → (fs.getD j []).length ≤ (ps.getD j zSl).c ∧ (((ps.getD j zSl).A = none ∧ fs.getD j [] = []) ∨ ∃ b, (ps.getD j zSl).A = some ⟨b, 0, none⟩)
  | [], [], _, _, hj => absurd hj (Nat.not_lt_zero _)
  | p :: ps, f :: fs, h, 0, _ => h.1
  | p :: ps, f :: fs, h, j + 1, hj => Fit.at h.2 j (by rw [List.length_cons] at hj; omega)
theorem Fit.one {W : World} {base : Nat} {ok : Nat → Prop} {A : Option Addr} {n c : Nat} {xs : List Int} (h : kByte.R 5 W base ok (.slice A n c) xs) : Fit [⟨A, n, c⟩] [xs] := by
  have hr := Kd.R_reads' h
  obtain ⟨inner, _, ho⟩ := Kd.R_own h
  refine ⟨⟨by have := hr.1; have := hr.2.1; show _ ≤ c; omega, ?_⟩, trivial⟩
  rcases ho with ⟨e, hn⟩ | ⟨g, cap, cur, e, _⟩
  · injection e with e1 e2 e3; exact Or.inl ⟨e1, List.eq_nil_of_length_eq_zero hn⟩
  · injection e with e1 e2 e3; exact Or.inr ⟨g, e1⟩
section
variable (w : World)
end
end Go.Proofs.YtbccaabaplbmhaaGreatDoor.L1
namespace Go.Proofs.YtbccaabaplbmhaaGreatDoor.L1
open Go.RowKit Go.Proofs.YtbccaabaplbmhaaGreatDoorW.PrintWords Go.Proofs.YtbccaabaplbmhaaGreatDoor.B
set_option linter.unusedVariables false
set_option linter.unusedSimpArgs false
attribute [local go_sem] mk_cell mk_frozen
def tagBit (b : Int) : Int := if b = 45 then 0 else 2 ^ (b - 97).toNat
def tagSum (f : List Int) : Nat → Int
  | 0 => 0
  | k + 1 => tagSum f k + tagBit (f.getD k 0)
section
variable (w : World)
end
end Go.Proofs.YtbccaabaplbmhaaGreatDoor.L1
namespace Go.Proofs.YtbccaabaplbmhaaGreatDoor.L1
open Go.RowKit Go.Proofs.YtbccaabaplbmhaaGreatDoorW.PrintWords Go.Proofs.YtbccaabaplbmhaaGreatDoor.B
set_option linter.unusedVariables false
set_option linter.unusedSimpArgs false
attribute [local go_sem] mk_cell mk_frozen
def kindOf (f : List Int) : Int := if f = wVehicle then 1 else if f = wRequest then 2 else if f = wRoad then 3 else 0
theorem ofU_toU {f : List Int} (hb : ∀ x, x ∈ f → 0 ≤ x ∧ x < 256) : ofU (f.map fun n => UInt8.ofNat n.toNat) = f := by
  unfold ofU
  rw [List.map_map]
  refine Eq.trans (List.map_congr_left (g := id) fun x hx => ?_) (List.map_id f)
  have := hb x hx
  show ((UInt8.ofNat x.toNat).toNat : Int) = x
  rw [UInt8.toNat_ofNat']
  omega
section
variable (w : World)
end
end Go.Proofs.YtbccaabaplbmhaaGreatDoor.L1
namespace Go.Proofs.YtbccaabaplbmhaaGreatDoor.L1
open Go.RowKit Go.Proofs.YtbccaabaplbmhaaGreatDoorW.PrintWords Go.Proofs.YtbccaabaplbmhaaGreatDoor.B
set_option linter.unusedVariables false
set_option linter.unusedSimpArgs false
attribute [local go_sem] mk_cell mk_frozen
def digsOk (d : List Int) : Bool := decide (1 ≤ d.length ∧ d.length ≤ 9) && decide (d.getD 0 0 ≠ 48) && allI d.length (fun k => inB (d.getD k 0) 48 57)
def numTail (f : List Int) : List Int := if f.getD 0 0 = 45 then f.drop 1 else f
def isNum (f : List Int) : Bool := decide (f = [48]) || digsOk (numTail f)
section
variable (w : World)
end
end Go.Proofs.YtbccaabaplbmhaaGreatDoor.L1
namespace Go.Proofs.YtbccaabaplbmhaaGreatDoor.L1
open Go.RowKit Go.Proofs.YtbccaabaplbmhaaGreatDoorW.PrintWords Go.Proofs.YtbccaabaplbmhaaGreatDoor.B
set_option linter.unusedVariables false
set_option linter.unusedSimpArgs false
def isDig (c : Int) : Prop := 48 ≤ c ∧ c ≤ 57
def stepD (a x : Int) : Int := 10 * a + (x - 48)
def digVal (f : List Int) : Int := f.foldl stepD 0
def numVal (f : List Int) : Int := if f.getD 0 0 = 45 then -digVal (f.drop 1) else digVal f
theorem digVal_nil : digVal [] = 0 := rfl
theorem digVal_snoc (f : List Int) (x : Int) : digVal (f ++ [x]) = 10 * digVal f + (x - 48) := by simp [digVal, stepD, List.foldl_append]
theorem snoc_rec {P : List Int → Prop} (h0 : P []) (h1 : ∀ f x, P f → P (f ++ [x])) : ∀ f, P f := fun f => by
  rw [← List.reverse_reverse f]
  generalize f.reverse = g
  induction g with
  | nil => exact h0
  | cons x g ih => rw [List.reverse_cons]; exact h1 _ _ ih
theorem digVal_bd (f : List Int) : (∀ x, x ∈ f → isDig x) → 0 ≤ digVal f ∧ digVal f < 10 ^ f.length := by
  refine snoc_rec (P := fun f => (∀ x, x ∈ f → isDig x) → 0 ≤ digVal f ∧ digVal f < 10 ^ f.length) (fun _ => by simp [digVal]) (fun f x ih h => ?_) f
  obtain ⟨h1, h2⟩ := ih fun y hy => h y (by simp [hy])
  obtain ⟨h3, h4⟩ := h x (by simp)
  rw [digVal_snoc, List.length_append, List.length_singleton, Int.pow_succ]
  omega
theorem digs_mem (z : Nat) : ∀ x, x ∈ digs z → isDig x := by
  induction z using Nat.strongRecOn with
  | _ z ih =>
    intro x hx
    by_cases h : z < 10
    · rw [digs_small h] at hx; simp only [List.mem_singleton] at hx; subst hx; unfold isDig; omega
    · rw [digs_big h, List.mem_append] at hx
      rcases hx with hx | hx
      · exact ih _ (by omega) x hx
      · simp only [List.mem_singleton] at hx; subst hx; unfold isDig; omega
theorem digs_ne (z : Nat) : digs z ≠ [] := by
  by_cases h : z < 10
  · rw [digs_small h]; simp
  · rw [digs_big h]; simp
theorem digVal_digs (z : Nat) : digVal (digs z) = z := by
  induction z using Nat.strongRecOn with
  | _ z ih =>
    by_cases h : z < 10
    · rw [digs_small h]; simp only [digVal, List.foldl, stepD]; omega
    · rw [digs_big h, digVal_snoc, ih _ (by omega)]; omega
theorem head_append {f : List Int} (h : f ≠ []) (g : List Int) : (f ++ g).getD 0 0 = f.getD 0 0 := by
  cases f with
  | nil => exact absurd rfl h
  | cons x f => rfl
theorem digs_head {z : Nat} (hz : 0 < z) : (digs z).getD 0 0 ≠ 48 := by
  induction z using Nat.strongRecOn with
  | _ z ih =>
    by_cases h : z < 10
    · rw [digs_small h]; show ((48 + z : Nat) : Int) ≠ 48; omega
    · rw [digs_big h, head_append (digs_ne _)]; exact ih _ (by omega) (by omega)
theorem digs_of (d : List Int) : (∀ x, x ∈ d → isDig x) → d ≠ [] → d.getD 0 0 ≠ 48 → 1 ≤ digVal d ∧ digs (digVal d).toNat = d := by
  refine snoc_rec (P := fun d => (∀ x, x ∈ d → isDig x) → d ≠ [] → d.getD 0 0 ≠ 48 → 1 ≤ digVal d ∧ digs (digVal d).toNat = d) (fun _ h => absurd rfl h) (fun f x ih h hne h0 => ?_) d
  obtain ⟨h3, h4⟩ := h x (by simp)
  rw [digVal_snoc]
  by_cases hf : f = []
  · subst hf
    have h5 : x ≠ 48 := h0
    rw [digVal_nil]
    refine ⟨by omega, ?_⟩
    rw [digs_small (by omega)]
    show [_] = [x]
    congr 1; omega
  · rw [head_append hf] at h0
    obtain ⟨h5, h6⟩ := ih (fun y hy => h y (by simp [hy])) hf h0
    refine ⟨by omega, ?_⟩
    rw [digs_big (by omega), show (10 * digVal f + (x - 48)).toNat / 10 = (digVal f).toNat by omega, h6]
    congr 2; omega
theorem digs_lt {z : Nat} (h : (digs z).length ≤ 9) : z < 1000000000 := by
  have h1 := (digVal_bd _ (digs_mem z)).2
  rw [digVal_digs] at h1
  have h2 : (10 : Int) ^ (digs z).length ≤ 10 ^ 9 := by
    have := Nat.pow_le_pow_right (n := 10) (by decide) h
    exact_mod_cast this
  have h3 : (10 : Int) ^ 9 = 1000000000 := by decide
  omega
theorem mem_of_all {d : List Int} : allI d.length (fun k => inB (d.getD k 0) 48 57) = true ↔ ∀ x, x ∈ d → isDig x := by
  rw [allI_iff]
  constructor
  · intro h x hx
    obtain ⟨k, hk, rfl⟩ := List.getElem_of_mem hx
    have := h k hk
    rw [List.getD_eq_getElem?_getD, List.getElem?_eq_getElem hk] at this
    simp only [inB, Bool.and_eq_true, decide_eq_true_eq, Option.getD_some] at this
    exact this
  · intro h k hk
    have := h (d.getD k 0) (by rw [List.getD_eq_getElem?_getD, List.getElem?_eq_getElem hk]; exact List.getElem_mem _)
    simp only [inB, Bool.and_eq_true, decide_eq_true_eq]; exact this
theorem digsOk_iff (d : List Int) : digsOk d = true ↔ (1 ≤ d.length ∧ d.length ≤ 9) ∧ d.getD 0 0 ≠ 48 ∧ ∀ x, x ∈ d → isDig x := by
  rw [← mem_of_all]; simp only [digsOk, Bool.and_eq_true, decide_eq_true_eq, and_assoc]
theorem digs_ok {z : Nat} (h0 : 0 < z) (h : (digs z).length ≤ 9) : digsOk (digs z) = true :=
  (digsOk_iff _).2 ⟨⟨List.length_pos_iff.2 (digs_ne z), h⟩, digs_head h0, digs_mem z⟩
theorem digs_first (z : Nat) : 48 ≤ (digs z).getD 0 0 := by
  have := digs_ne z
  have h := digs_mem z ((digs z).getD 0 0) (by
    cases hd : digs z with
    | nil => exact absurd hd this
    | cons x f => simp)
  exact h.1
/-- The numerals are the decimal words of the numbers of at most nine digits. -/
theorem isNum_dec {f : List Int} (h : isNum f = true) : f = dec (numVal f) ∧ (numTail f).length ≤ 9 := by
  unfold isNum at h
  rw [Bool.or_eq_true, decide_eq_true_eq] at h
  rcases h with rfl | h
  · exact ⟨by show _ = digs 0; rw [digs_small (by decide)]; rfl, by decide⟩
  · obtain ⟨⟨h1, h2⟩, h3, h4⟩ := (digsOk_iff _).1 h
    refine ⟨?_, h2⟩
    unfold numVal
    unfold numTail at h1 h2 h3 h4
    have hne : ∀ d : List Int, 1 ≤ d.length → d ≠ [] := fun d hd he => by subst he; simp at hd
    by_cases h45 : f.getD 0 0 = 45
    · rw [if_pos h45] at h1 h2 h3 h4 ⊢
      obtain ⟨h5, h6⟩ := digs_of _ h4 (hne _ h1) h3
      unfold dec
      rw [if_pos (by omega), Int.neg_neg, h6]
      cases f with
      | nil => simp at h45
      | cons x f => have : x = 45 := h45; subst this; rfl
    · rw [if_neg h45] at h1 h2 h3 h4 ⊢
      obtain ⟨h5, h6⟩ := digs_of _ h4 (hne _ h1) h3
      unfold dec
      rw [if_neg (by omega), h6]
theorem dec_isNum {v : Int} (h : (numTail (dec v)).length ≤ 9) : isNum (dec v) = true ∧ numVal (dec v) = v := by
  unfold dec at h ⊢
  by_cases hv : v < 0
  · rw [if_pos hv] at h ⊢
    refine ⟨?_, ?_⟩
    · unfold isNum; rw [Bool.or_eq_true]; right; exact digs_ok (by omega) h
    · show -digVal (digs _) = _; rw [digVal_digs]; omega
  · rw [if_neg hv] at h ⊢
    have h0 := digs_first v.toNat
    have h1 : ¬ (digs v.toNat).getD 0 0 = 45 := by omega
    unfold numTail at h
    rw [if_neg h1] at h
    refine ⟨?_, ?_⟩
    · unfold isNum; rw [Bool.or_eq_true]
      by_cases hz : v = 0
      · left; subst hz; exact decide_eq_true (by rw [show Int.toNat 0 = 0 from rfl, digs_small (by decide)]; rfl)
      · right; unfold numTail; rw [if_neg h1]; exact digs_ok (by omega) h
    · unfold numVal; rw [if_neg h1, digVal_digs]; omega
theorem numVal_bd {f : List Int} (h : isNum f = true) : -1000000000 < numVal f ∧ numVal f < 1000000000 := by
  obtain ⟨h1, h2⟩ := isNum_dec h
  generalize numVal f = v at h1
  subst h1
  unfold numTail dec at h2
  by_cases hv : v < 0
  · rw [if_pos hv] at h2
    have := digs_lt (z := (-v).toNat) h2
    omega
  · rw [if_neg hv] at h2
    have h0 := digs_first v.toNat
    rw [if_neg (by omega)] at h2
    have := digs_lt h2
    omega
def stepU (a : Nat) (c : UInt8) : Nat := a * 10 + (c.toNat - 48)
theorem parseU : ∀ (l : List UInt8) (k acc : Nat), acc < 10 ^ k → k + l.length ≤ 18 → (∀ c, c ∈ l → 48 ≤ c.toNat ∧ c.toNat ≤ 57) → Lib.parseUintM (2 ^ 64 - 1) acc l = .ok (l.foldl stepU acc)
  | [], _, _, _, _, _ => rfl
  | c :: l, k, acc, ha, hk, h => by
    obtain ⟨h1, h2⟩ := h c (by simp)
    have h3 : acc * 10 + (c.toNat - 48) < 10 ^ (k + 1) := by rw [Nat.pow_succ]; omega
    have h4 : 10 ^ (k + 1) ≤ 10 ^ 18 := Nat.pow_le_pow_right (by decide) (by rw [List.length_cons] at hk; omega)
    have h5 : (10 : Nat) ^ 18 = 1000000000000000000 := by decide
    have h6 : (2 : Nat) ^ 64 - 1 = 18446744073709551615 := by decide
    unfold Lib.parseUintM
    rw [if_pos ⟨h1, h2⟩, if_neg (by omega), if_neg (by omega)]
    exact parseU l (k + 1) _ h3 (by rw [List.length_cons] at hk; omega) fun c hc => h c (by simp [hc])
theorem fold_val : ∀ (l : List UInt8) (acc : Nat), (∀ c, c ∈ l → 48 ≤ c.toNat ∧ c.toNat ≤ 57) → (ofU l).foldl stepD acc = ((l.foldl stepU acc : Nat) : Int)
  | [], _, _ => rfl
  | c :: l, acc, h => by
    obtain ⟨h1, h2⟩ := h c (by simp)
    show List.foldl stepD (stepD acc c.toNat) (ofU l) = _
    rw [show stepD acc c.toNat = ((stepU acc c : Nat) : Int) by unfold stepD stepU; omega]
    exact fold_val l _ fun c hc => h c (by simp [hc])
theorem parse_dec {l : List UInt8} (h : isNum (ofU l) = true) : Lib.parseIntB 64 l = .ok (numVal (ofU l)) := by
  have hb := numVal_bd h
  obtain ⟨h1, h2⟩ := isNum_dec h
  have hdig : ∀ m : List UInt8, (∀ x, x ∈ ofU m → isDig x) → ∀ c, c ∈ m → 48 ≤ c.toNat ∧ c.toNat ≤ 57 := fun m hm c hc => by
    have := hm (c.toNat : Int) (List.mem_map.2 ⟨c, hc, rfl⟩)
    unfold isDig at this; omega
  have hd : ∀ m : List UInt8, m ≠ [] → m.length ≤ 9 → (∀ x, x ∈ ofU m → isDig x) → Lib.parseUintB 64 m = .ok (digVal (ofU m)).toNat := fun m hm hl hx => by
    unfold Lib.parseUintB
    rw [if_neg hm, parseU m 0 0 (by decide) (by omega) (hdig m hx)]
    have := fold_val m 0 (hdig m hx)
    congr 1
    unfold digVal
    rw [show ((0 : Int)) = ((0 : Nat) : Int) from rfl, this]; rfl
  have hall : ∀ x, x ∈ numTail (ofU l) → isDig x := by
    unfold isNum at h
    rw [Bool.or_eq_true, decide_eq_true_eq] at h
    rcases h with h | h
    · rw [h]; intro x hx; have : x = 48 := by simpa [numTail] using hx
      subst this; unfold isDig; omega
    · exact ((digsOk_iff _).1 h).2.2
  have hne : numTail (ofU l) ≠ [] := by
    unfold isNum at h
    rw [Bool.or_eq_true, decide_eq_true_eq] at h
    rcases h with h | h
    · rw [h]; decide
    · intro he; have := ((digsOk_iff _).1 h).1.1; rw [he] at this; simp at this
  unfold numVal at hb ⊢
  cases l with
  | nil => exact absurd rfl hne
  | cons c r =>
    unfold numTail at h2 hall hne
    have e0 : (ofU (c :: r)).getD 0 0 = (c.toNat : Int) := rfl
    rw [e0] at hb h2 hall hne ⊢
    have e1 : (ofU (c :: r)).drop 1 = ofU r := rfl
    rw [e1] at hb h2 hall hne ⊢
    by_cases h45 : c.toNat = 45
    · rw [if_pos (by omega)] at hb h2 hall hne ⊢
      have hr : r ≠ [] := fun he => hne (by rw [he]; rfl)
      have hv := (digVal_bd _ hall).1
      have hu := hd r hr (by simpa [ofU] using h2) hall
      unfold Lib.parseIntB
      dsimp only
      rw [if_pos (Or.inr h45), hu]
      dsimp only
      rw [if_neg (by omega), if_neg (by rintro ⟨_, h⟩; simp at h; omega), if_pos h45]
      congr 1; omega
    · rw [if_neg (by omega)] at hb h2 hall hne ⊢
      have hv := (digVal_bd _ hall).1
      have hu := hd (c :: r) (by simp) (by simpa [ofU] using h2) hall
      have h43 : ¬ c.toNat = 43 := by have := hdig _ hall c (by simp); omega
      unfold Lib.parseIntB
      dsimp only
      rw [if_neg (by omega), hu]
      dsimp only
      rw [if_neg (by rintro ⟨_, h⟩; simp at h; omega), if_neg (by rintro ⟨h, _⟩; exact h45 h), if_neg h45]
      congr 1; omega
end Go.Proofs.YtbccaabaplbmhaaGreatDoor.L1
namespace Go.Proofs.YtbccaabaplbmhaaGreatDoor.L1
open Go.RowKit Go.Proofs.YtbccaabaplbmhaaGreatDoorW.PrintWords Go.Proofs.YtbccaabaplbmhaaGreatDoor.B
set_option linter.unusedVariables false
set_option linter.unusedSimpArgs false
attribute [local go_sem] mk_cell mk_frozen
end Go.Proofs.YtbccaabaplbmhaaGreatDoor.L1
namespace Go.Proofs.YtbccaabaplbmhaaGreatDoor.L1
open Go.RowKit Go.Proofs.YtbccaabaplbmhaaGreatDoorW.PrintWords Go.Proofs.YtbccaabaplbmhaaGreatDoor.B
set_option linter.unusedVariables false
set_option linter.unusedSimpArgs false
attribute [local go_sem] mk_cell mk_frozen
def tagStep (f : List Int) (k : Nat) : Bool := inB (f.getD k 0) 97 112 && (decide (k = 0) || decide (f.getD (k - 1) 0 < f.getD k 0))
def tagOk (f : List Int) : Bool := decide (f = [45]) || (decide (0 < f.length) && allI f.length (tagStep f))
theorem tagOk_bad {f : List Int} {k : Nat} (hne : f ≠ [45]) (hk : k < f.length) (h : tagStep f k = false) : tagOk f = false := by unfold tagOk; rw [allI_false hk h, decide_eq_false hne]; simp
theorem tagOk_all {f : List Int} (hne : f ≠ [45]) (h : allI f.length (tagStep f) = true) : tagOk f = decide (0 < f.length) := by unfold tagOk; rw [h, decide_eq_false hne]; simp
section
variable (w : World)
end
end Go.Proofs.YtbccaabaplbmhaaGreatDoor.L1
namespace Go.Proofs.YtbccaabaplbmhaaGreatDoor.L1
open Go.RowKit Go.Proofs.YtbccaabaplbmhaaGreatDoorW.PrintWords Go.Proofs.YtbccaabaplbmhaaGreatDoor.B
set_option linter.unusedVariables false
set_option linter.unusedSimpArgs false
attribute [local go_sem] mk_cell mk_frozen
/-- A word lies at a cell. -/
def WordAt (W : World) (B j : Nat) (f : List Int) : Prop := ∃ A c, W.cell? ⟨B, j, none⟩ = some (.slice A f.length c) ∧ f.length ≤ c ∧ ((A = none ∧ f = []) ∨ ∃ b, A = some ⟨b, 0, none⟩) ∧ kByte.C W A f.length f
def Words (W : World) (B : Nat) (fs : List (List Int)) : Prop := ∀ j, j < fs.length → WordAt W B j (fs.getD j [])
theorem WordAt.below {W W1 : World} {B j : Nat} {f : List Int} (h : WordAt W B j f) (hb : Below W.heap.size W W1) : WordAt W1 B j f := by
  obtain ⟨A, c, h1, h2, h3, h4⟩ := h
  exact ⟨A, c, pw_cell_below hb h1, h2, h3, Kd.C_below h4 hb⟩
theorem Words.below {W W1 : World} {B : Nat} {fs : List (List Int)} (h : Words W B fs) (hb : Below W.heap.size W W1) : Words W1 B fs := fun j hj => (h j hj).below hb
theorem Flds.words {W : World} {base : Nat} {ok : Nat → Prop} {v : Value} {ps : List Sl} {fs : List (List Int)} (h : kSl.R 22 W base ok v ps) (hF : Flds W ps fs) (hT : Fit ps fs) (hn : 0 < fs.length) : ∃ B c, v = .slice (some ⟨B, 0, none⟩) fs.length c ∧ fs.length ≤ c ∧ Words W B fs := by
  have hl := hF.len
  obtain ⟨inner, _, ho⟩ := Kd.R_own h
  rcases ho with ⟨e, hz⟩ | ⟨g, cap, cur, e, _, _, hc, _⟩
  · omega
  · have hr := (Kd.R_reads' (e ▸ h)).2.2
    rw [hl] at hr e hc
    refine ⟨g, cap, e, hc, fun j hj => ?_⟩
    obtain ⟨h1, h2⟩ := hF.at j hj
    obtain ⟨h3, h4⟩ := hT.at j hj
    obtain ⟨ad, e0, t0, _⟩ := Kd.flat_cells (d := kSl) rfl hr zSl j (by omega)
    cases e0
    have := t0 _ rfl
    rw [Nat.mul_one, Addr.add_lit, Nat.zero_add] at this
    exact ⟨_, _, by rw [this, h1], h3, h4, h2⟩
def placeOf (fs : List (List Int)) (i : Nat) : Place := ⟨numVal (fs.getD i []), numVal (fs.getD (i + 1) []), numVal (fs.getD (i + 2) []), numVal (fs.getD (i + 3) []), numVal (fs.getD (i + 4) [])⟩
section
variable (w : World)
end
end Go.Proofs.YtbccaabaplbmhaaGreatDoor.L1
namespace Go.Proofs.YtbccaabaplbmhaaGreatDoor.L1
open Go.RowKit Go.Proofs.YtbccaabaplbmhaaGreatDoorW.PrintWords Go.Proofs.YtbccaabaplbmhaaGreatDoor.B
set_option linter.unusedVariables false
set_option linter.unusedSimpArgs false
attribute [local go_sem] mk_cell mk_frozen
def GAt (l : List (Nat × (Value → Nat → World → Prop))) (i : Nat) (v : Value) (lo : Nat) (W : World) : Prop := ∀ P, (i, P) ∈ l → P v lo W
def Stays (P : Value → Nat → World → Prop) : Prop := ∀ v lo W W', Below W.heap.size W W' → P v lo W → P v lo W'
/-- The block that a region makes for a variable of an aggregate type. -/
def BoxG (cs : Array Value) (T : TypeId) (v : Value) (lo : Nat) (W : World) : Prop := v = .pointer (some ⟨lo, 0, none⟩) ∧ W.heap[lo]? = some (.cells cs T (0, 0))
theorem BoxG.stays (cs : Array Value) (T : TypeId) : Stays (BoxG cs T) := fun v lo W W' hb h => ⟨h.1, blk_below h.2 hb⟩
def AllStay : List (Nat × (Value → Nat → World → Prop)) → Prop
  | [] => True
  | p :: t => Stays p.2 ∧ AllStay t
theorem AllStay.at : ∀ {l : List (Nat × (Value → Nat → World → Prop))}, AllStay l → ∀ p, p ∈ l → Stays p.2
  | _ :: _, h, p, hp => by
    rcases List.mem_cons.1 hp with rfl | hp
    · exact h.1
    · exact AllStay.at h.2 p hp
theorem GAt.stays {l : List (Nat × (Value → Nat → World → Prop))} (hl : AllStay l) (i : Nat) (v : Value) (lo hi : Nat) (W W' : World) (hb : Below W.heap.size W W') (h : GAt l i v lo W) : GAt l i v lo W' := fun P hP => hl.at _ hP v lo W W' hb (h P hP)
theorem GAt.at {l : List (Nat × (Value → Nat → World → Prop))} {i : Nat} {v : Value} {lo : Nat} {W : World} (h : GAt l i v lo W) {P : Value → Nat → World → Prop} (hP : (i, P) ∈ l) : P v lo W := h P hP
theorem GAt.mk {l : List (Nat × (Value → Nat → World → Prop))} {i : Nat} {v : Value} {lo : Nat} {W : World} {P : Value → Nat → World → Prop} (h : P v lo W) (hl : ∀ p, p ∈ l → p.1 = i → p.2 = P) : GAt l i v lo W := fun P' hP' => by rw [show P' = P from hl (i, P') hP' rfl]; exact h
/-- The rows of an instance, each of the call's own. -/
def OwnI (W : World) (base : Nat) (u : Value) (x : Inst) : Prop := ∃ v0 v1 v2, u = .agg #[v0, v1, v2] ∧ kVeh.R 45 W base (fun _ => True) v0 x.vs ∧ kReq.R 48 W base (fun _ => True) v1 x.qs ∧ kRoad.R 51 W base (fun _ => True) v2 x.rs
theorem OwnI.below {W W1 : World} {base : Nat} {u : Value} {x : Inst} (h : OwnI W base u x) (hb : Below W.heap.size W W1) : OwnI W1 base u x := by
  obtain ⟨v0, v1, v2, e, h0, h1, h2⟩ := h
  exact ⟨v0, v1, v2, e, Kd.R_below h0 hb, Kd.R_below h1 hb, Kd.R_below h2 hb⟩
theorem OwnI.read {W : World} {base : Nat} {u : Value} {x : Inst} (h : OwnI W base u x) : ReadInst W u x := by
  obtain ⟨v0, v1, v2, rfl, h0, h1, h2⟩ := h
  obtain ⟨A0, c0, rfl⟩ := Kd.R_slice h0
  obtain ⟨A1, c1, rfl⟩ := Kd.R_slice h1
  obtain ⟨A2, c2, rfl⟩ := Kd.R_slice h2
  exact ⟨A0, c0, A1, c1, A2, c2, rfl, (Kd.R_reads' h0).2.2, (Kd.R_reads' h1).2.2, (Kd.R_reads' h2).2.2⟩
def wantOf (k : Int) : Nat := if k = 2 then 13 else if k = 3 then 4 else 8
def formAt (k : Int) (fs : List (List Int)) (j : Nat) : Bool := if j = 0 then true else if k < 3 ∧ j = 2 then tagOk (fs.getD j []) else isNum (fs.getD j [])
def vehOf (fs : List (List Int)) : Veh := ⟨numVal (fs.getD 1 []), tagSum (fs.getD 2 []) (fs.getD 2 []).length, placeOf fs 3⟩
def reqOf (fs : List (List Int)) : Req := ⟨numVal (fs.getD 1 []), tagSum (fs.getD 2 []) (fs.getD 2 []).length, placeOf fs 3, placeOf fs 8⟩
def roadOf (fs : List (List Int)) : Road := ⟨numVal (fs.getD 1 []), numVal (fs.getD 2 []), numVal (fs.getD 3 [])⟩
def addVeh (x : Inst) (v : Veh) : Int × Inst := if v.good = false then (7, x) else if x.vs.length = 64 then (9, x) else (0, ⟨x.vs ++ [v], x.qs, x.rs⟩)
def addReq (x : Inst) (q : Req) : Int × Inst := if q.good = false then (7, x) else if x.qs.length = 1000 then (9, x) else (0, ⟨x.vs, x.qs ++ [q], x.rs⟩)
def addRoad (x : Inst) (r : Road) : Int × Inst := if r.good x.nodes = false then (7, x) else if 0 < x.rs.length ∧ (x.rs.getD (x.rs.length - 1) zR).lt r = false then (8, x) else if x.rs.length = 4000 then (9, x) else (0, ⟨x.vs, x.qs, x.rs ++ [r]⟩)
/-- The error of a line of the words fs over the instance x, and the instance with the line. -/
def lineW (x : Inst) (fs : List (List Int)) (k : Int) : Int × Inst :=
  if k = 0 then (3, x) else if (0 < x.rs.length ∧ k < 3) ∨ (0 < x.qs.length ∧ k < 2) then (4, x) else if fs.length ≠ wantOf k then (5, x) else if allI fs.length (formAt k fs) = false then (6, x)
  else if k = 1 then addVeh x (vehOf fs) else if k = 2 then addReq x (reqOf fs) else addRoad x (roadOf fs)
def lineP (x : Inst) (line : List Int) : Int × Inst := lineW x (pieces 32 line) (kindOf ((pieces 32 line).getD 0 []))
def isByte (b : Int) : Prop := 0 ≤ b ∧ b < 256
theorem cutTo_mem (sep : Int) (bs : List Int) : ∀ k, k ≤ bs.length → (∀ f, f ∈ (cutTo sep bs k).1 → ∀ b, b ∈ f → b ∈ bs) ∧ ∀ b, b ∈ (cutTo sep bs k).2 → b ∈ bs
  | 0, _ => by simp [cutTo]
  | k + 1, hk => by
    obtain ⟨h1, h2⟩ := cutTo_mem sep bs k (by omega)
    have h3 : bs.getD k 0 ∈ bs := by rw [List.getD_eq_getElem?_getD, List.getElem?_eq_getElem (by omega)]; exact List.getElem_mem _
    unfold cutTo
    split
    · refine ⟨fun f hf => ?_, fun b hb => by simp at hb⟩
      rcases List.mem_append.1 hf with hf | hf
      · exact h1 f hf
      · rw [List.mem_singleton.1 hf]; exact h2
    · refine ⟨h1, fun b hb => ?_⟩
      rcases List.mem_append.1 hb with hb | hb
      · exact h2 b hb
      · rw [List.mem_singleton.1 hb]; exact h3
theorem cutTo_short (sep : Int) (bs : List Int) : ∀ k, (∀ f, f ∈ (cutTo sep bs k).1 → f.length ≤ k) ∧ (cutTo sep bs k).2.length ≤ k
  | 0 => by simp [cutTo]
  | k + 1 => by
    obtain ⟨h1, h2⟩ := cutTo_short sep bs k
    unfold cutTo
    split
    · refine ⟨fun f hf => ?_, Nat.zero_le _⟩
      rcases List.mem_append.1 hf with hf | hf
      · have := h1 f hf; omega
      · rw [List.mem_singleton.1 hf]; omega
    · refine ⟨fun f hf => by have := h1 f hf; omega, ?_⟩
      simp only [List.length_append, List.length_cons, List.length_nil]; omega
theorem pieces_mem {sep : Int} {bs f : List Int} (h : f ∈ pieces sep bs) : f.length ≤ bs.length ∧ ∀ b, b ∈ f → b ∈ bs := by
  obtain ⟨h1, h2⟩ := cutTo_mem sep bs bs.length (Nat.le_refl _)
  obtain ⟨h3, h4⟩ := cutTo_short sep bs bs.length
  unfold pieces at h
  rcases List.mem_append.1 h with h | h
  · exact ⟨h3 f h, h1 f h⟩
  · rw [List.mem_singleton.1 h]; exact ⟨h4, h2⟩
theorem pieces_pos (sep : Int) (bs : List Int) : 0 < (pieces sep bs).length := by unfold pieces; simp
theorem pieces_len (sep : Int) (bs : List Int) : (pieces sep bs).length ≤ bs.length + 1 := by
  have := cutTo_len sep bs bs.length
  unfold pieces; rw [List.length_append, List.length_singleton]; omega
/-- A row of bytes of a length that the functions take. -/
def Tame (f : List Int) : Prop := f.length ≤ 1048576 ∧ ∀ b, b ∈ f → isByte b
theorem Tame.piece {sep : Int} {bs : List Int} (h : Tame bs) (j : Nat) : Tame ((pieces sep bs).getD j []) := by
  by_cases hj : j < (pieces sep bs).length
  · have hm : (pieces sep bs).getD j [] ∈ pieces sep bs := by rw [List.getD_eq_getElem?_getD, List.getElem?_eq_getElem hj]; exact List.getElem_mem _
    obtain ⟨h1, h2⟩ := pieces_mem hm
    exact ⟨Nat.le_trans h1 h.1, fun b hb => h.2 b (h2 b hb)⟩
  · rw [List.getD_eq_getElem?_getD, List.getElem?_eq_none (by omega)]
    exact ⟨by simp, by simp⟩
section
variable {W : World} {B j : Nat} {f : List Int}
end
end Go.Proofs.YtbccaabaplbmhaaGreatDoor.L1
