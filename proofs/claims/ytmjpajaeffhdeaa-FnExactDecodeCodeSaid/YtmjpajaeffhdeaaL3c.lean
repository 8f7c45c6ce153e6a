/- ValidCode of the reference: blocks and the whole. -/
import Derived.Test.YtmjpajaeffhdeaaL3b
import Derived.Test.YtmjpajaeffhdeaaG0
namespace Go.Proofs.Ytmjpajaeffhdeaa.L1
open Go.RowKit Go.Proofs.YtmjpajaeffhdeaaW.PrintWords Go.Proofs.Ytmjpajaeffhdeaa.B
set_option linter.unusedVariables false
set_option linter.unusedSimpArgs false
attribute [local go_sem] mk_cell mk_frozen
def blockOk (regs slots : Int) (b : List Ins) : Bool := decide (b.length ≤ 16384) && allI b.length (fun k => (b.getD k zIns).ok regs slots k b.length)
def Code.valid (x : Code) : Bool := inB x.regs 13 1000 && inB x.slots 0 100 && blockOk x.regs x.slots x.b0 && blockOk x.regs x.slots x.b1 && blockOk x.regs x.slots x.b2
section
variable (w : World)
set_option maxRecDepth 100000 in
set_option maxHeartbeats 2000000 in
theorem spec_goodBlock (regs slots : Int) (B0 B1 B2 : Value) (o0 : B0.oneCell' = true) (o1 : B1.oneCell' = true) (o2 : B2.oneCell' = true) (hr : 13 ≤ regs ∧ regs ≤ 1000) (hs : 0 ≤ slots ∧ slots ≤ 100) (R : Option Addr) (rc : Nat) (xs : List Ins) (hR : kIns.C w R xs.length xs) :
    Calls Try.prog 57 #[.agg #[.int .i64 regs, .int .i64 slots, B0, B1, B2], .slice R xs.length rc] w fun e w' => e = .returned (.bool (blockOk regs slots xs)) ∧ Below w.heap.size w w' := by
  have hml := hR.2.1; have HR := Aside0.mk hR; clear hR
  have HB := Aside0.mk (below_alloc (Below.refl w.heap.size w) (.cells #[.int .i64 regs, .int .i64 slots, B0, B1, B2] 32)); have HA := Aside0.mk (al_new w (.cells #[.int .i64 regs, .int .i64 slots, B0, B1, B2] 32))
  by_cases hl : 16384 < xs.length
  · have HL := Aside0.mk (show blockOk regs slots xs = false by unfold blockOk; rw [decide_eq_false (show ¬ xs.length ≤ 16384 by omega)]; rfl)
    have p0 : decide ((16384 : Int) < (xs.length : Int)) = true := by simp; omega
    go_enter Try.func57, Try.ntmps57
    go_wp2
    go_ret
    exact ⟨by rw [HL.out]; rfl, HB.out⟩
  have p0 : decide ((16384 : Int) < (xs.length : Int)) = false := by simp; omega
  go_enter Try.func57, Try.ntmps57
  go_wp2_with fail
  go_loopg [5] (xs.length + 1) (fun q v4 wr => ∃ k, q = xs.length + 1 - k ∧ k ≤ xs.length ∧ v4 = .int .i64 k ∧ Aside0 (∀ j, j < k → (xs.getD j zIns).ok regs slots j xs.length = true) ∧ Aside0 (Below w.heap.size w wr) ∧ Aside0 (wr.heap[w.heap.size]? = some (.cells #[.int .i64 regs, .int .i64 slots, B0, B1, B2] 32)))
  case atStart => exact ⟨0, by omega, by omega, rfl, ⟨fun j hj => absurd hj (Nat.not_lt_zero _)⟩, HB, HA⟩
  case round =>
    obtain ⟨k, rfl, hk, rfl, HP, HBk, HAk⟩ := hrel
    clear HB HA
    by_cases hlt : k < xs.length
    · obtain ⟨ad, e0, t0, t1⟩ := Kd.flat_cells (d := kIns) rfl (Kd.C_below HR.out HBk.out) zIns k hlt
      cases e0
      generalize hy : xs.getD k zIns = y at t0 t1
      have HY := Aside0.mk hy; clear hy
      have y0 := t0 _ rfl; have y1 := t1 0 _ rfl; have y2 := t1 1 _ rfl; have y3 := t1 2 _ rfl
      clear t0 t1
      have z0 := blk_cell HAk.out 0; have z1 := blk_cell HAk.out 1; have z2 := blk_cell HAk.out 2; have z3 := blk_cell HAk.out 3; have z4 := blk_cell HAk.out 4
      simp only [List.getElem?_toArray, List.getElem?_cons_zero, List.getElem?_cons_succ] at z0 z1 z2 z3 z4
      go_wp2_with fail
      refine Grow.wp_region_growB (by kernel_rfl) (by kernel_rfl) ?_
      repeat ((first | (refine Grow.lex_skip (by rfl) ?_) | (refine Grow.lex_do _ (by rfl) (by intro W hj; have t0 := pw_cell_below hj.out z0; have t1 := pw_cell_below hj.out z1; have t2 := pw_cell_below hj.out z2; have t3 := pw_cell_below hj.out z3; have t4 := pw_cell_below hj.out z4; have u0 := pw_cell_below hj.out y0; have u1 := pw_cell_below hj.out y1; have u2 := pw_cell_below hj.out y2; have u3 := pw_cell_below hj.out y3; go_simp; first | exact Grow.Upon.val hj | with_reducible exact Grow.Upon.callB hj (spec_goodIns W y.op y.a y.b y.c regs slots B0 B1 B2 k xs.length hr hs (by omega))) ?_)); refine Grow.lex_norm (fun K hK => ?_); go_simp; refine hK _ ?_; clear hK K)
      refine Grow.lex_nil (fun W hj => ?_)
      have HB2 := Aside0.mk (bel_call HBk.out hj.out); have HA2 := Aside0.mk (blk_below HAk.out hj.out); clear hj z0 z1 z2 z3 z4 y0 y1 y2 y3
      cases hst : insOk y.op y.a y.b y.c regs slots k xs.length with
      | false =>
        have HL := Aside0.mk (show blockOk regs slots xs = false by unfold blockOk; rw [allI_false hlt (by rw [HY.out]; exact hst)]; simp); clear hst
        go_wp2
        go_ret
        exact ⟨by rw [HL.out]; rfl, HB2.out⟩
      | true =>
        have HP1 := Aside0.mk (show ∀ j, j < k + 1 → (xs.getD j zIns).ok regs slots j xs.length = true from fun j hj => by
          rcases Nat.lt_or_ge j k with h | h
          · exact HP.out j h
          · rw [show j = k by omega, HY.out]; exact hst); clear hst
        go_wp2
        go_roundg (xs.length + 1 - (k + 1))
        case measure => omega
        case rel => exact ⟨k + 1, rfl, hlt, by go_num, HP1, HB2, HA2⟩
    · have HL := Aside0.mk (show blockOk regs slots xs = true by unfold blockOk; rw [decide_eq_true (show xs.length ≤ 16384 by omega), allI_iff.2 fun j hj => HP.out j (by omega)]; rfl)
      go_wp2
      go_ret
      exact ⟨by rw [HL.out]; rfl, HBk.out⟩
set_option maxRecDepth 100000 in
set_option maxHeartbeats 2000000 in
theorem spec_ValidCode (v : Value) (x : Code) (hr : ReadCode w v x) : Calls Try.prog 19 #[v] w fun e w' => e = .returned (.bool x.valid) ∧ Below w.heap.size w w' := by
  obtain ⟨A0, c0, A1, c1, A2, c2, rfl, r0, r1, r2⟩ := hr
  have m0 := r0.2.1; have m1 := r1.2.1; have m2 := r2.2.1
  have HR := Aside0.mk (And.intro r0 (And.intro r1 r2)); clear r0 r1 r2
  have HB0 := Aside0.mk (below_alloc (Below.refl w.heap.size w) (.cells #[.int .i64 x.regs, .int .i64 x.slots, .slice A0 x.b0.length c0, .slice A1 x.b1.length c1, .slice A2 x.b2.length c2] 32)); have HA0 := Aside0.mk (al_new w (.cells #[.int .i64 x.regs, .int .i64 x.slots, .slice A0 x.b0.length c0, .slice A1 x.b1.length c1, .slice A2 x.b2.length c2] 32))
  go_enter Try.func19, Try.ntmps19
  go_wp2_with fail
  go_at_call 56
  refine (spec_l1In _ _ _ _).mono ?_
  rintro e w' ⟨rfl, rfl⟩
  cases h0 : inB x.regs 13 1000 with
  | false =>
    have HV := Aside0.mk (show x.valid = false by unfold Code.valid; rw [h0]; rfl); clear h0
    go_wp2
    go_ret
    exact ⟨by rw [HV.out]; rfl, HB0.out⟩
  | true =>
  have G0 := Aside0.mk h0; clear h0
  go_wp2_with fail
  go_at_call 56
  refine (spec_l1In _ _ _ _).mono ?_
  rintro e w' ⟨rfl, rfl⟩
  cases h0 : inB x.slots 0 100 with
  | false =>
    have HV := Aside0.mk (show x.valid = false by unfold Code.valid; rw [h0]; simp); clear h0
    go_wp2
    go_ret
    exact ⟨by rw [HV.out]; rfl, HB0.out⟩
  | true =>
  have G1 := Aside0.mk h0; clear h0
  have hr := (inB_iff _ _ _).1 G0.out; have hs := (inB_iff _ _ _).1 G1.out
  have HN := Aside0.mk (And.intro hr hs); clear hr hs
  go_wp2_with fail
  go_at_call 57
  refine (spec_goodBlock _ x.regs x.slots _ _ _ rfl rfl rfl HN.out.1 HN.out.2 A0 c0 x.b0 (Kd.C_below HR.out.1 HB0.out)).mono ?_
  rintro e w1 ⟨rfl, hb⟩
  have HB1 := Aside0.mk (bel_call HB0.out hb); have HA1 := Aside0.mk (blk_below HA0.out hb); clear hb
  cases h0 : blockOk x.regs x.slots x.b0 with
  | false =>
    have HV := Aside0.mk (show x.valid = false by unfold Code.valid; rw [h0]; simp); clear h0
    go_wp2
    go_ret
    exact ⟨by rw [HV.out]; rfl, HB1.out⟩
  | true =>
  have G2 := Aside0.mk h0; clear h0
  obtain ⟨b1, b2⟩ := lay (Below.refl _ _) HA1.out
  go_wp2_with fail
  clear b1 b2
  go_at_call 57
  refine (spec_goodBlock _ x.regs x.slots _ _ _ rfl rfl rfl HN.out.1 HN.out.2 A1 c1 x.b1 (Kd.C_below HR.out.2.1 HB1.out)).mono ?_
  rintro e w2 ⟨rfl, hb⟩
  have HB2 := Aside0.mk (bel_call HB1.out hb); have HA2 := Aside0.mk (blk_below HA1.out hb); clear hb
  cases h0 : blockOk x.regs x.slots x.b1 with
  | false =>
    have HV := Aside0.mk (show x.valid = false by unfold Code.valid; rw [h0]; simp); clear h0
    go_wp2
    go_ret
    exact ⟨by rw [HV.out]; rfl, HB2.out⟩
  | true =>
  have G3 := Aside0.mk h0; clear h0
  obtain ⟨b1, b2⟩ := lay (Below.refl _ _) HA2.out
  go_wp2_with fail
  clear b1 b2
  go_at_call 57
  refine (spec_goodBlock _ x.regs x.slots _ _ _ rfl rfl rfl HN.out.1 HN.out.2 A2 c2 x.b2 (Kd.C_below HR.out.2.2 HB2.out)).mono ?_
  rintro e w3 ⟨rfl, hb⟩
  have HB3 := Aside0.mk (bel_call HB2.out hb); have HA3 := Aside0.mk (blk_below HA2.out hb); clear hb
  cases h0 : blockOk x.regs x.slots x.b2 with
  | false =>
    have HV := Aside0.mk (show x.valid = false by unfold Code.valid; rw [h0]; simp); clear h0
    go_wp2
    go_ret
    exact ⟨by rw [HV.out]; rfl, HB3.out⟩
  | true =>
  have G4 := Aside0.mk h0; clear h0
  have HV := Aside0.mk (show x.valid = true by unfold Code.valid; rw [G0.out, G1.out, G2.out, G3.out, G4.out]; rfl)
  go_wp2
  go_ret
  exact ⟨by rw [HV.out]; rfl, HB3.out⟩
end
end Go.Proofs.Ytmjpajaeffhdeaa.L1
