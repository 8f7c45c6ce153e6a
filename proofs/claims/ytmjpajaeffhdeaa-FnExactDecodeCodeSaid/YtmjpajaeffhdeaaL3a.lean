/- What the laws' helpers answer over code: its copy, its comparison with itself, its size. -/
import Derived.Test.YtmjpajaeffhdeaaL1c
namespace Go.Proofs.Ytmjpajaeffhdeaa.L1
open Go.RowKit Go.Proofs.YtmjpajaeffhdeaaW.PrintWords Go.Proofs.Ytmjpajaeffhdeaa.B
set_option linter.unusedVariables false
set_option linter.unusedSimpArgs false
structure Ins where (op a b c : Int)
def Ins.enc (v : Ins) : List Value := [.int .i64 v.op, .int .i64 v.a, .int .i64 v.b, .int .i64 v.c]
def kIns : Kd Ins := Kd.flat 4 Ins.enc (fun _ => rfl) (by intro x u hu; simp [Ins.enc] at hu; rcases hu with rfl | rfl | rfl | rfl <;> rfl)
def zIns : Ins := ⟨0, 0, 0, 0⟩
section
variable (w : World)
set_option maxHeartbeats 1000000 in
theorem toIns (v : Ins) : Calls Try.prog 108 #[.agg #[.int .i64 v.op, .int .i64 v.a, .int .i64 v.b, .int .i64 v.c]] w fun e w' => e = .returned (.agg #[.int .i64 v.op, .int .i64 v.a, .int .i64 v.b, .int .i64 v.c]) ∧ Below w.heap.size w w' := by
  go_enter Try.func108, Try.ntmps108
  go_wp2
  refine bodyPost_ret (v := .agg #[.int .i64 v.op, .int .i64 v.a, .int .i64 v.b, .int .i64 v.c]) (by simp [results, Try.results108, go_sem]) rfl ⟨rfl, ?_⟩
  exact by with_reducible repeat (first | refine bel_set ?_ (by omega) _ | refine below_alloc ?_ _ | refine below_drew ?_ | exact Below.refl _ _)
set_option maxRecDepth 100000 in
theorem toInsS (A : Option Addr) (c : Nat) (xs : List Ins) (hr : kIns.C w A xs.length xs) (hm : xs.length ≤ 1048576) : Calls Try.prog 58 #[.slice A xs.length c] w fun e w' => ∃ v, e = .returned v ∧ kIns.R 81 w' w.heap.size (fun _ => True) v xs ∧ Below w.heap.size w w' := by
  have HR := Aside0.mk hr; clear hr
  go_enter Try.func58, Try.ntmps58
  go_wp2_with (refine Kd.flat_make kIns rfl 7 rfl rfl 30 _ _ rfl xs.length rfl rfl 81 Try.underlying30 zIns 32 (by kernel_rfl) (by decide) (by decide) (by omega) (Below.refl _ _) ?_; intro v1 w1 hr1 hb1 _)
  have HR1 := Aside0.mk hr1; have HB1 := Aside0.mk hb1; clear hr1 hb1
  go_loopg [4] (xs.length + 1) (fun q v4 wr => ∃ k ys, q = xs.length + 1 - k ∧ k ≤ xs.length ∧ v4 = .int .i64 k ∧ Aside0 (Filled xs k ys) ∧ Aside0 (kIns.R 81 wr w.heap.size (fun _ => True) v1 ys) ∧ Aside0 (Below w.heap.size w wr))
  case atStart => exact ⟨0, _, by omega, by omega, rfl, ⟨Filled.zero xs zIns⟩, HR1, HB1⟩
  case round =>
    obtain ⟨k, ys, rfl, hk, rfl, HF, HO, HB⟩ := hrel
    clear HR1 HB1
    by_cases hlt : k < xs.length
    · have hf := HF.out.step hlt zIns
      obtain ⟨ad, e0, h0, h1⟩ := Kd.flat_cells (d := kIns) rfl (Kd.C_below HR.out HB.out) zIns k hlt
      cases e0
      generalize xs.getD k zIns = x at hf h0 h1
      have HF1 := Aside0.mk hf; clear hf
      have c0 := h0 _ rfl; have c1 := h1 0 _ rfl; have c2 := h1 1 _ rfl; have c3 := h1 2 _ rfl
      clear h0 h1
      obtain ⟨g, cap, rfl, hg, _, _⟩ := Kd.R_form HO.out (by rw [HF.out.1]; omega)
      have hky : k < ys.length := by rw [HF.out.1]; exact hlt
      go_wp2_with (first | (go_at_call 108; refine (toIns _ x).mono ?_; rintro e w2 ⟨rfl, hb⟩) | ((with_reducible refine gate_store (t := 81) (p := 21) rfl ?_); refine Kd.flat_store kIns rfl rfl rfl 81 _ _ rfl k x rfl rfl rfl (by kernel_rfl) (Kd.R_below HO.out hb) hky (bel_call HB.out hb) ?_; intro w3 hr3 hb3 _; have HO1 := Aside0.mk hr3; have HB1 := Aside0.mk hb3; clear hr3 hb3 hb))
      go_roundg (xs.length + 1 - (k + 1))
      case measure => omega
      case rel => exact ⟨k + 1, _, rfl, hlt, by go_num, HF1, HO1, HB1⟩
    · go_wp2
      go_ret
      exact ⟨_, rfl, by rw [← HF.out.done (by omega)]; exact HO.out, HB.out⟩
set_option maxHeartbeats 1000000 in
theorem eqIns (v : Ins) : Calls Try.prog 111 #[.agg #[.int .i64 v.op, .int .i64 v.a, .int .i64 v.b, .int .i64 v.c], .agg #[.int .i64 v.op, .int .i64 v.a, .int .i64 v.b, .int .i64 v.c]] w fun e w' => e = .returned (.bool true) ∧ Below w.heap.size w w' := by
  go_enter Try.func111, Try.ntmps111
  go_wp2
  go_ret
  exact ⟨rfl, by with_reducible repeat (first | refine bel_set ?_ (by omega) _ | refine below_alloc ?_ _ | refine below_drew ?_ | exact Below.refl _ _)⟩
set_option maxRecDepth 100000 in
theorem eqInsS (A A' : Option Addr) (c c' : Nat) (xs : List Ins) (hr : kIns.C w A xs.length xs) (hr' : kIns.C w A' xs.length xs) (hm : xs.length ≤ 1048576) : Calls Try.prog 61 #[.slice A xs.length c, .slice A' xs.length c'] w fun e w' => e = .returned (.bool true) ∧ Below w.heap.size w w' := by
  have HR := Aside0.mk hr; have HR' := Aside0.mk hr'; clear hr hr'
  go_enter Try.func61, Try.ntmps61
  go_wp2_with fail
  go_loopg [5] (xs.length + 1) (fun q v wr => ∃ k, q = xs.length + 1 - k ∧ k ≤ xs.length ∧ v = .int .i64 k ∧ Aside0 (Below w.heap.size w wr))
  case atStart => exact ⟨0, by omega, by omega, rfl, ⟨Below.refl _ _⟩⟩
  case round =>
    obtain ⟨k, rfl, hk, rfl, HB⟩ := hrel
    by_cases hlt : k < xs.length
    · obtain ⟨ad, e0, h0, h1⟩ := Kd.flat_cells (d := kIns) rfl (Kd.C_below HR.out HB.out) zIns k hlt
      obtain ⟨ad', e0', g0, g1⟩ := Kd.flat_cells (d := kIns) rfl (Kd.C_below HR'.out HB.out) zIns k hlt
      cases e0; cases e0'
      generalize xs.getD k zIns = x at h0 h1 g0 g1
      have c0 := h0 _ rfl; have c1 := h1 0 _ rfl; have c2 := h1 1 _ rfl; have c3 := h1 2 _ rfl
      have d0 := g0 _ rfl; have d1 := g1 0 _ rfl; have d2 := g1 1 _ rfl; have d3 := g1 2 _ rfl
      clear h0 h1 g0 g1
      go_wp2_with fail
      go_still_tail 8, (by kernel_rfl)
      go_wp2_with (go_at_call 111; refine (eqIns _ x).mono ?_; rintro e w2 ⟨rfl, hb⟩; have HB1 := Aside0.mk (bel_call (below_drew HB.out) hb); clear hb)
      go_roundg (xs.length + 1 - (k + 1))
      case measure => omega
      case rel => exact ⟨k + 1, rfl, hlt, by go_num, HB1⟩
    · go_wp2
      go_ret
      exact ⟨rfl, HB.out⟩
theorem szInsS (A : Option Addr) (n c : Nat) (left : Int) (h0 : 0 ≤ left) (h1 : left ≤ 1048576) (hn : n ≤ 9223372036854775807) : Calls Try.prog 55 #[.slice A n c, .int .i64 left] w fun e w' => e = .returned (.int .i64 (if left < n then -1 else left - n)) ∧ w = w' := by
  go_enter Try.func55, Try.ntmps55
  go_wp2
  all_goals (go_ret; exact ⟨by first | rfl | (rw [if_pos (by omega)]; rfl) | (rw [if_neg (by omega)]; rfl), rfl⟩)
end
structure Code where (regs slots : Int) (b0 b1 b2 : List Ins)
def ReadCode (w : World) (v : Value) (x : Code) : Prop := ∃ A0 c0 A1 c1 A2 c2, v = .agg #[.int .i64 x.regs, .int .i64 x.slots, .slice A0 x.b0.length c0, .slice A1 x.b1.length c1, .slice A2 x.b2.length c2] ∧
  kIns.C w A0 x.b0.length x.b0 ∧ kIns.C w A1 x.b1.length x.b1 ∧ kIns.C w A2 x.b2.length x.b2
def OwnCode (w : World) (base : Nat) (v : Value) (x : Code) : Prop := ∃ v0 v1 v2 s1 s2, v = .agg #[.int .i64 x.regs, .int .i64 x.slots, v0, v1, v2] ∧ s1 ≤ s2 ∧ kIns.R 81 w base (fun b => b < s1) v0 x.b0 ∧ kIns.R 81 w base (fun b => s1 ≤ b ∧ b < s2) v1 x.b1 ∧ kIns.R 81 w base (fun b => s2 ≤ b) v2 x.b2
theorem ReadCode.below {w w1 : World} {v : Value} {x : Code} (h : ReadCode w v x) (hb : Below w.heap.size w w1) : ReadCode w1 v x := by
  obtain ⟨A0, c0, A1, c1, A2, c2, rfl, h0, h1, h2⟩ := h
  exact ⟨A0, c0, A1, c1, A2, c2, rfl, Kd.C_below h0 hb, Kd.C_below h1 hb, Kd.C_below h2 hb⟩
theorem OwnCode.read {w : World} {base : Nat} {v : Value} {x : Code} (h : OwnCode w base v x) : ReadCode w v x := by
  obtain ⟨v0, v1, v2, s1, s2, rfl, hss, h0, h1, h2⟩ := h
  obtain ⟨A0, c0, rfl, _, r0⟩ := Kd.R_reads h0
  obtain ⟨A1, c1, rfl, _, r1⟩ := Kd.R_reads h1
  obtain ⟨A2, c2, rfl, _, r2⟩ := Kd.R_reads h2
  exact ⟨A0, c0, A1, c1, A2, c2, rfl, r0, r1, r2⟩
theorem OwnCode.below {w w1 : World} {base : Nat} {v : Value} {x : Code} (h : OwnCode w base v x) (hb : Below w.heap.size w w1) : OwnCode w1 base v x := by
  obtain ⟨v0, v1, v2, s1, s2, rfl, hss, h0, h1, h2⟩ := h
  exact ⟨v0, v1, v2, s1, s2, rfl, hss, Kd.R_below h0 hb, Kd.R_below h1 hb, Kd.R_below h2 hb⟩
theorem OwnCode.lower {w : World} {base base' : Nat} {v : Value} {x : Code} (h : OwnCode w base v x) (hb : base' ≤ base) : OwnCode w base' v x := by
  obtain ⟨v0, v1, v2, s1, s2, rfl, hss, h0, h1, h2⟩ := h
  exact ⟨v0, v1, v2, s1, s2, rfl, hss, Kd.R_lower h0 hb, Kd.R_lower h1 hb, Kd.R_lower h2 hb⟩
def Code.small (x : Code) : Prop := x.b0.length ≤ 1048576 ∧ x.b1.length ≤ 1048576 ∧ x.b2.length ≤ 1048576
section
variable (w : World)
set_option maxRecDepth 100000 in
set_option maxHeartbeats 1000000 in
theorem eqCode (v v' : Value) (x : Code) (hr : ReadCode w v x) (hr' : ReadCode w v' x) (hs : x.small) : Calls Try.prog 22 #[v, v'] w fun e w' => e = .returned (.bool true) ∧ Below w.heap.size w w' := by
  obtain ⟨A0, c0, A1, c1, A2, c2, rfl, r0, r1, r2⟩ := hr
  obtain ⟨B0, d0, B1, d1, B2, d2, rfl, s0, s1, s2⟩ := hr'
  obtain ⟨n0, n1, n2⟩ := hs
  have HR := Aside0.mk (And.intro r0 (And.intro r1 (And.intro r2 (And.intro s0 (And.intro s1 s2))))); clear r0 r1 r2 s0 s1 s2
  go_enter Try.func22, Try.ntmps22
  go_wp2_with fail
  have HB := Aside0.mk (below_alloc (below_alloc (Below.refl w.heap.size w) (.cells #[.int .i64 x.regs, .int .i64 x.slots, .slice A0 x.b0.length c0, .slice A1 x.b1.length c1, .slice A2 x.b2.length c2] 32)) (.cells #[.int .i64 x.regs, .int .i64 x.slots, .slice B0 x.b0.length d0, .slice B1 x.b1.length d1, .slice B2 x.b2.length d2] 32))
  refine (eqInsS _ A0 B0 c0 d0 x.b0 (Kd.C_below HR.out.1 HB.out) (Kd.C_below HR.out.2.2.2.1 HB.out) n0).mono ?_
  rintro e w0 ⟨rfl, hb⟩
  have A := blk_below ((al_old (by simp only [al_size]; omega)).trans (al_new w _)) hb
  have B := blk_below (al_new _ _) hb
  simp only [al_size] at B
  obtain ⟨a1, a2⟩ := lay (Below.refl _ _) A; obtain ⟨b1, b2⟩ := lay (Below.refl _ _) B
  have HA := Aside0.mk A; have HB' := Aside0.mk B; have HB0 := Aside0.mk (bel_call HB.out hb); clear hb HB A B
  go_wp2_with fail
  clear a1 a2 b1 b2
  refine (eqInsS _ A1 B1 c1 d1 x.b1 (Kd.C_below HR.out.2.1 HB0.out) (Kd.C_below HR.out.2.2.2.2.1 HB0.out) n1).mono ?_
  rintro e w1 ⟨rfl, hb⟩
  obtain ⟨a1, a2⟩ := lay hb HA.out; obtain ⟨b1, b2⟩ := lay hb HB'.out
  have HB1 := Aside0.mk (bel_call HB0.out hb); clear hb HB0
  go_wp2_with fail
  clear a1 a2 b1 b2
  refine (eqInsS _ A2 B2 c2 d2 x.b2 (Kd.C_below HR.out.2.2.1 HB1.out) (Kd.C_below HR.out.2.2.2.2.2 HB1.out) n2).mono ?_
  rintro e w2 ⟨rfl, hb⟩
  have HB2 := Aside0.mk (bel_call HB1.out hb); clear hb HB1
  go_wp2
  go_ret
  exact ⟨rfl, HB2.out⟩

theorem szCode (v : Value) (x : Code) (left : Int) (h0 : 0 ≤ left) (h1 : left ≤ 1048576) (hr : ReadCode w v x) : Calls Try.prog 18 #[v, .int .i64 left] w fun e w' => (∃ r : Int, e = .returned (.int .i64 r) ∧ (r = -1 ∨ (0 ≤ r ∧ r ≤ left ∧ x.small))) ∧ Below w.heap.size w w' := by
  obtain ⟨A0, c0, A1, c1, A2, c2, rfl, r0, r1, r2⟩ := hr
  have m0 := r0.2.1; have m1 := r1.2.1; have m2 := r2.2.1
  clear r0 r1 r2
  generalize hn0 : x.b0.length = n0 at m0; generalize hn1 : x.b1.length = n1 at m1; generalize hn2 : x.b2.length = n2 at m2
  have H0 := Lib.hid hn0; have H1 := Lib.hid hn1; have H2 := Lib.hid hn2; clear hn0 hn1 hn2
  go_enter Try.func18, Try.ntmps18
  by_cases l0 : left < n0
  · go_wp2_with fail
    go_at_call 55; refine (szInsS _ A0 n0 c0 left (by omega) (by omega) m0).mono ?_; rw [if_pos (by omega)]; rintro e w1 ⟨rfl, rfl⟩
    go_wp2
    go_ret
    exact ⟨⟨-1, rfl, .inl rfl⟩, below_alloc (Below.refl _ _) _⟩
  by_cases l1 : left - n0 < n1
  · go_wp2_with fail
    go_at_call 55; refine (szInsS _ A0 n0 c0 left (by omega) (by omega) m0).mono ?_; rw [if_neg (by omega)]; rintro e w1 ⟨rfl, rfl⟩
    go_wp2_with fail
    go_at_call 55; refine (szInsS _ A1 n1 c1 (left - n0) (by omega) (by omega) m1).mono ?_; rw [if_pos (by omega)]; rintro e w1 ⟨rfl, rfl⟩
    go_wp2
    go_ret
    exact ⟨⟨-1, rfl, .inl rfl⟩, below_alloc (Below.refl _ _) _⟩
  by_cases l2 : left - n0 - n1 < n2
  · go_wp2_with fail
    go_at_call 55; refine (szInsS _ A0 n0 c0 left (by omega) (by omega) m0).mono ?_; rw [if_neg (by omega)]; rintro e w1 ⟨rfl, rfl⟩
    go_wp2_with fail
    go_at_call 55; refine (szInsS _ A1 n1 c1 (left - n0) (by omega) (by omega) m1).mono ?_; rw [if_neg (by omega)]; rintro e w1 ⟨rfl, rfl⟩
    go_wp2_with fail
    go_at_call 55; refine (szInsS _ A2 n2 c2 (left - n0 - n1) (by omega) (by omega) m2).mono ?_; rw [if_pos (by omega)]; rintro e w1 ⟨rfl, rfl⟩
    go_wp2
    go_ret
    exact ⟨⟨-1, rfl, .inl rfl⟩, below_alloc (Below.refl _ _) _⟩
  · go_wp2_with fail
    go_at_call 55; refine (szInsS _ A0 n0 c0 left (by omega) (by omega) m0).mono ?_; rw [if_neg (by omega)]; rintro e w1 ⟨rfl, rfl⟩
    go_wp2_with fail
    go_at_call 55; refine (szInsS _ A1 n1 c1 (left - n0) (by omega) (by omega) m1).mono ?_; rw [if_neg (by omega)]; rintro e w1 ⟨rfl, rfl⟩
    go_wp2_with fail
    go_at_call 55; refine (szInsS _ A2 n2 c2 (left - n0 - n1) (by omega) (by omega) m2).mono ?_; rw [if_neg (by omega)]; rintro e w1 ⟨rfl, rfl⟩
    go_wp2
    go_ret
    refine ⟨⟨left - n0 - n1 - n2, rfl, .inr ⟨by omega, by omega, ?_⟩⟩, below_alloc (Below.refl _ _) _⟩
    unfold Code.small; rw [H0.out, H1.out, H2.out]; omega
end
section
variable (w : World)
set_option maxRecDepth 100000 in
set_option maxHeartbeats 1000000 in
theorem toCode (v : Value) (x : Code) (hr : ReadCode w v x) (hs : x.small) : Calls Try.prog 20 #[v] w fun e w' => ∃ u, e = .returned u ∧ OwnCode w' w.heap.size u x ∧ Below w.heap.size w w' := by
  obtain ⟨A0, c0, A1, c1, A2, c2, rfl, r0, r1, r2⟩ := hr
  obtain ⟨n0, n1, n2⟩ := hs
  have R0 := Aside0.mk r0; have R1 := Aside0.mk r1; have R2 := Aside0.mk r2; clear r0 r1 r2
  go_enter Try.func20, Try.ntmps20
  go_wp2_with fail
  have HB := Aside0.mk (below_alloc (below_alloc (below_alloc (Below.refl w.heap.size w) (.cells #[.int .i64 x.regs, .int .i64 x.slots, .slice A0 x.b0.length c0, .slice A1 x.b1.length c1, .slice A2 x.b2.length c2] 27)) (.cells #[.int .i64 0, .int .i64 0, .slice none 0 0, .slice none 0 0, .slice none 0 0] 32)) (.cells #[.int .i64 x.regs, .int .i64 x.slots, .slice none 0 0, .slice none 0 0, .slice none 0 0] 32))
  refine (toInsS _ A0 c0 x.b0 (Kd.C_below R0.out HB.out) n0).mono ?_
  rintro e w0 ⟨v0, rfl, hr0, hb0⟩
  have A := blk_below ((al_old (by simp only [al_size]; omega)).trans ((al_old (by simp only [al_size]; omega)).trans (al_new w _))) hb0
  have B := blk_below ((al_old (by simp only [al_size]; omega)).trans (al_new _ _)) hb0
  have D := blk_below (al_new _ _) hb0
  have hz0 := hb0.size
  have hr0' := Kd.fresh (base := w.heap.size) hr0 (by simp only [al_size]; omega)
  simp only [al_size] at B D hz0 hr0'
  obtain ⟨a1, a2⟩ := lay (Below.refl _ _) A
  obtain ⟨d1, d2⟩ := lay (Below.refl _ _) D
  have HB0 := Aside0.mk (bel_set (b := w.heap.size + 1 + 1) (o := 2) (bel_call HB.out hb0) (by omega))
  obtain ⟨B0, d0, rfl, _, _⟩ := Kd.R_reads hr0'
  have HR0 := Aside0.mk (Kd.R_far (p := ⟨w.heap.size + 1 + 1, 2, none⟩) hr0' (fun k hk => by have := hk.1; simp only; omega) (.slice B0 x.b0.length d0))
  have HA := Aside0.mk (blk_far (p := ⟨w.heap.size + 1 + 1, 2, none⟩) A (by simp only; omega) (.slice B0 x.b0.length d0)); have HC := Aside0.mk (blk_far (p := ⟨w.heap.size + 1 + 1, 2, none⟩) B (by simp only; omega) (.slice B0 x.b0.length d0)); have HD := Aside0.mk (blk_set D 2 (.slice B0 x.b0.length d0)); clear hb0 hr0 hr0' A B D HB
  go_wp2_with fail
  clear a1 a2 d1 d2
  refine (toInsS _ A1 c1 x.b1 (Kd.C_below R1.out (HB0.out _)) n1).mono ?_
  rintro e w1 ⟨v1, rfl, hr1, hb1⟩
  have A := blk_below HA.out hb1; have B := blk_below HC.out hb1; have D := blk_below HD.out hb1
  have hz1 := hb1.size
  have hr1' := Kd.fresh (base := w.heap.size) hr1 (by simp; omega)
  have hr0' := Kd.R_below HR0.out hb1
  simp only [World.size_setCell, List.setIfInBounds_toArray, List.set_cons_zero, List.set_cons_succ] at D hz1 hr1'
  obtain ⟨a1, a2⟩ := lay (Below.refl _ _) A
  obtain ⟨d1, d2⟩ := lay (Below.refl _ _) D
  have HB1 := Aside0.mk (bel_set (b := w.heap.size + 1 + 1) (o := 3) (bel_call (HB0.out _) hb1) (by omega))
  obtain ⟨B1, d1', rfl, _, _⟩ := Kd.R_reads hr1'
  have HS0 := Aside0.mk (Kd.R_far (p := ⟨w.heap.size + 1 + 1, 3, none⟩) hr0' (fun k hk => by have := hk.1; simp only; omega) (.slice B1 x.b1.length d1'))
  have HS1 := Aside0.mk (Kd.R_far (p := ⟨w.heap.size + 1 + 1, 3, none⟩) hr1' (fun k hk => by have := hk.1; simp only; omega) (.slice B1 x.b1.length d1'))
  have HA1 := Aside0.mk (blk_far (p := ⟨w.heap.size + 1 + 1, 3, none⟩) A (by simp only; omega) (.slice B1 x.b1.length d1')); have HC1 := Aside0.mk (blk_far (p := ⟨w.heap.size + 1 + 1, 3, none⟩) B (by simp only; omega) (.slice B1 x.b1.length d1')); have HD1 := Aside0.mk (blk_set D 3 (.slice B1 x.b1.length d1')); clear hb1 hr1 hr1' hr0' A B D HB0 HA HC HD HR0
  go_wp2_with fail
  clear a1 a2 d1 d2
  refine (toInsS _ A2 c2 x.b2 (Kd.C_below R2.out (HB1.out _)) n2).mono ?_
  rintro e w2 ⟨v2, rfl, hr2, hb2⟩
  have B := blk_below HC1.out hb2; have D := blk_below HD1.out hb2
  have hz2 := hb2.size
  have hr2' := Kd.fresh (base := w.heap.size) hr2 (by simp; omega)
  simp only [World.size_setCell, List.setIfInBounds_toArray, List.set_cons_zero, List.set_cons_succ] at D hz2 hr2'
  obtain ⟨b1, b2⟩ := lay (Below.refl _ _) B
  obtain ⟨d1, d2⟩ := lay (Below.refl _ _) D
  obtain ⟨B2, d2', rfl, _, _⟩ := Kd.R_reads hr2'
  have HB2 := Aside0.mk (bel_call (HB1.out _) hb2)
  have HT0 := Aside0.mk (Kd.R_below HS0.out hb2); have HT1 := Aside0.mk (Kd.R_below HS1.out hb2); have HT2 := Aside0.mk hr2'
  clear hb2 hr2 hr2' B D HA1 HC1 HD1 HB1 HS0 HS1
  go_wp2
  refine bodyPost_ret (v := .agg #[.int .i64 x.regs, .int .i64 x.slots, .slice B0 x.b0.length d0, .slice B1 x.b1.length d1', .slice B2 x.b2.length d2']) (by simp [results, Try.results20, go_sem, b1, b2, d1, d2]) rfl ⟨_, rfl, ⟨_, _, _, w0.heap.size, w1.heap.size, rfl, by omega, ?_, ?_, ?_⟩, ?_⟩
  · refine Kd.R_mono (ok := fun k => w.heap.size + 1 + 1 + 1 ≤ k ∧ k < w0.heap.size) ?_ (fun k hk => hk.2)
    with_reducible repeat (first | exact HT0.out | refine Kd.R_far ?_ (fun k hk => by have := hk.1; simp only; omega) _)
  · refine Kd.R_mono (ok := fun k => w0.heap.size ≤ k ∧ k < w1.heap.size) ?_ (fun k hk => hk)
    with_reducible repeat (first | exact HT1.out | refine Kd.R_far ?_ (fun k hk => by have := hk.1; simp only; omega) _)
  · refine Kd.R_mono (ok := fun k => w1.heap.size ≤ k ∧ k < w2.heap.size) ?_ (fun k hk => hk.1)
    with_reducible repeat (first | exact HT2.out | refine Kd.R_far ?_ (fun k hk => by have := hk.1; simp only; omega) _)
  · with_reducible repeat (first | exact HB2.out | refine bel_set ?_ (by omega) _)
end
end Go.Proofs.Ytmjpajaeffhdeaa.L1
