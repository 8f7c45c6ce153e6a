/- ValidCode of the reference: blocks and the whole. An instruction is good, as the program tells it. -/
import Derived.Test.YtlhpbpkefkabgaaGreatQS8
import Derived.Test.YtlhpbpkefkabgaaGreatQS4
namespace Go.Proofs.YtlhpbpkefkabgaaGreat.L1
open Go.RowKit Go.Proofs.YtlhpbpkefkabgaaGreatW.PrintWords Go.Proofs.YtlhpbpkefkabgaaGreat.B
set_option linter.unusedVariables false
set_option linter.unusedSimpArgs false
attribute [local go_sem] mk_cell mk_frozen
def blockOk (regs slots : Int) (b : List Ins) : Bool := decide (b.length ≤ 16384) && allI b.length (fun k => (b.getD k zIns).ok regs slots k b.length)
def Code.valid (x : Code) : Bool := inB x.regs 13 1000 && inB x.slots 0 100 && blockOk x.regs x.slots x.b0 && blockOk x.regs x.slots x.b1 && blockOk x.regs x.slots x.b2
section
variable (w : World)
set_option maxRecDepth 100000 in
set_option maxHeartbeats 2000000 in
theorem spec_goodBlock (regs slots : Int) (B0 B1 B2 : Value) (o0 : B0.oneCell' = true) (o1 : B1.oneCell' = true) (o2 : B2.oneCell' = true) (hr : 13 ≤ regs ∧ regs ≤ 1000) (hs : 0 ≤ slots ∧ slots ≤ 100) (R : Option Addr) (rc : Nat) (xs : List Ins) (hR : kIns.C w R xs.length xs) :
    Calls Tryz.prog 74 #[.agg #[.int .i64 regs, .int .i64 slots, B0, B1, B2], .slice R xs.length rc] w fun e w' => e = .returned (.bool (blockOk regs slots xs)) ∧ Below w.heap.size w w' := by
  have hml := hR.2.1; have HR := sA hR; clear hR
  have HB := sA (bA (Below.refl w.heap.size w) (.cells #[.int .i64 regs, .int .i64 slots, B0, B1, B2] 41)); have HA := sA (al_new w (.cells #[.int .i64 regs, .int .i64 slots, B0, B1, B2] 41))
  by_cases hl : 16384 < xs.length
  · have HL := sA (show blockOk regs slots xs = false by unfold blockOk; rw [decide_eq_false (show ¬ xs.length ≤ 16384 by omega)]; rfl)
    have p0 : decide ((16384 : Int) < (xs.length : Int)) = true := by simp; omega
    go_enter Tryz.func74, Tryz.ntmps74
    go_wp2
    go_ret
    exact ⟨by rw [HL.out]; rfl, HB.out⟩
  have p0 : decide ((16384 : Int) < (xs.length : Int)) = false := by simp; omega
  go_enter Tryz.func74, Tryz.ntmps74
  go_wp2_with fail
  go_loopg [5] (xs.length + 1) (fun q v4 wr => ∃ k, q = xs.length + 1 - k ∧ k ≤ xs.length ∧ v4 = .int .i64 k ∧ Aside0 (∀ j, j < k → (xs.getD j zIns).ok regs slots j xs.length = true) ∧ Aside0 (Below w.heap.size w wr) ∧ Aside0 (wr.heap[w.heap.size]? = some (.cells #[.int .i64 regs, .int .i64 slots, B0, B1, B2] 41)))
  case atStart => exact ⟨0, by omega, by omega, rfl, ⟨fun j hj => absurd hj (Nat.not_lt_zero _)⟩, HB, HA⟩
  case round =>
    obtain ⟨k, rfl, hk, rfl, HP, HBk, HAk⟩ := hrel
    clear HB HA
    by_cases hlt : k < xs.length
    · obtain ⟨ad, e0, t0, t1⟩ := Kd.flat_cells (d := kIns) rfl (Kd.C_below HR.out HBk.out) zIns k hlt
      cases e0
      generalize hy : xs.getD k zIns = y at t0 t1
      have HY := sA hy; clear hy
      have y0 := t0 _ rfl; have y1 := t1 0 _ rfl; have y2 := t1 1 _ rfl; have y3 := t1 2 _ rfl
      clear t0 t1
      have z0 := blk_cell HAk.out 0; have z1 := blk_cell HAk.out 1; have z2 := blk_cell HAk.out 2; have z3 := blk_cell HAk.out 3; have z4 := blk_cell HAk.out 4
      simp only [List.getElem?_toArray, List.getElem?_cons_zero, List.getElem?_cons_succ] at z0 z1 z2 z3 z4
      go_wp2_with fail
      refine Grow.wp_region_growB (by kernel_rfl) (by kernel_rfl) ?_
      repeat ((first | (refine Grow.lex_skip (by rfl) ?_) | (refine Grow.lex_do _ (by rfl) (by intro W hj; have t0 := pC hj.out z0; have t1 := pC hj.out z1; have t2 := pC hj.out z2; have t3 := pC hj.out z3; have t4 := pC hj.out z4; have u0 := pC hj.out y0; have u1 := pC hj.out y1; have u2 := pC hj.out y2; have u3 := pC hj.out y3; go_simp; first | exact Grow.Upon.val hj | with_reducible exact Grow.Upon.callB hj (spec_goodIns W y.op y.a y.b y.c regs slots B0 B1 B2 k xs.length hr hs (by omega))) ?_)); refine Grow.lex_norm (fun K hK => ?_); go_simp; refine hK _ ?_; clear hK K)
      refine Grow.lex_nil (fun W hj => ?_)
      have HB2 := sA (bC HBk.out hj.out); have HA2 := sA (bB HAk.out hj.out); clear hj z0 z1 z2 z3 z4 y0 y1 y2 y3
      cases hst : insOk y.op y.a y.b y.c regs slots k xs.length with
      | false =>
        have HL := sA (show blockOk regs slots xs = false by unfold blockOk; rw [allI_false hlt (by rw [HY.out]; exact hst)]; simp); clear hst
        go_wp2
        go_ret
        exact ⟨by rw [HL.out]; rfl, HB2.out⟩
      | true =>
        have HP1 := sA (show ∀ j, j < k + 1 → (xs.getD j zIns).ok regs slots j xs.length = true from fun j hj => by
          rcases Nat.lt_or_ge j k with h | h
          · exact HP.out j h
          · rw [show j = k by omega, HY.out]; exact hst); clear hst
        go_wp2
        go_roundg (xs.length + 1 - (k + 1))
        case measure => omega
        case rel => exact ⟨k + 1, rfl, hlt, by go_num, HP1, HB2, HA2⟩
    · have HL := sA (show blockOk regs slots xs = true by unfold blockOk; rw [decide_eq_true (show xs.length ≤ 16384 by omega), allI_iff.2 fun j hj => HP.out j (by omega)]; rfl)
      go_wp2
      go_ret
      exact ⟨by rw [HL.out]; rfl, HBk.out⟩
set_option maxRecDepth 100000 in
set_option maxHeartbeats 2000000 in
theorem spec_ValidCode (v : Value) (x : Code) (hr : ReadCode w v x) : Calls Tryz.prog 40 #[v] w fun e w' => e = .returned (.bool x.valid) ∧ Below w.heap.size w w' := by
  obtain ⟨A0, c0, A1, c1, A2, c2, rfl, r0, r1, r2⟩ := hr
  have m0 := r0.2.1; have m1 := r1.2.1; have m2 := r2.2.1
  have HR := sA (And.intro r0 (And.intro r1 r2)); clear r0 r1 r2
  have HB0 := sA (bA (Below.refl w.heap.size w) (.cells #[.int .i64 x.regs, .int .i64 x.slots, .slice A0 x.b0.length c0, .slice A1 x.b1.length c1, .slice A2 x.b2.length c2] 41)); have HA0 := sA (al_new w (.cells #[.int .i64 x.regs, .int .i64 x.slots, .slice A0 x.b0.length c0, .slice A1 x.b1.length c1, .slice A2 x.b2.length c2] 41))
  go_enter Tryz.func40, Tryz.ntmps40
  go_wp2_with fail
  go_at_call 47
  refine (spec_l1In _ _ _ _).mono ?_
  rintro e w' ⟨rfl, rfl⟩
  cases h0 : inB x.regs 13 1000 with
  | false =>
    have HV := sA (show x.valid = false by unfold Code.valid; rw [h0]; rfl); clear h0
    go_wp2
    go_ret
    exact ⟨by rw [HV.out]; rfl, HB0.out⟩
  | true =>
  have G0 := sA h0; clear h0
  go_wp2_with fail
  go_at_call 47
  refine (spec_l1In _ _ _ _).mono ?_
  rintro e w' ⟨rfl, rfl⟩
  cases h0 : inB x.slots 0 100 with
  | false =>
    have HV := sA (show x.valid = false by unfold Code.valid; rw [h0]; simp); clear h0
    go_wp2
    go_ret
    exact ⟨by rw [HV.out]; rfl, HB0.out⟩
  | true =>
  have G1 := sA h0; clear h0
  have hr := (inB_iff _ _ _).1 G0.out; have hs := (inB_iff _ _ _).1 G1.out
  have HN := sA (And.intro hr hs); clear hr hs
  go_wp2_with fail
  go_at_call 74
  refine (spec_goodBlock _ x.regs x.slots _ _ _ rfl rfl rfl HN.out.1 HN.out.2 A0 c0 x.b0 (Kd.C_below HR.out.1 HB0.out)).mono ?_
  rintro e w1 ⟨rfl, hb⟩
  have HB1 := sA (bC HB0.out hb); have HA1 := sA (bB HA0.out hb); clear hb
  cases h0 : blockOk x.regs x.slots x.b0 with
  | false =>
    have HV := sA (show x.valid = false by unfold Code.valid; rw [h0]; simp); clear h0
    go_wp2
    go_ret
    exact ⟨by rw [HV.out]; rfl, HB1.out⟩
  | true =>
  have G2 := sA h0; clear h0
  obtain ⟨b1, b2⟩ := lay0 HA1.out
  go_wp2_with fail
  clear b1 b2
  go_at_call 74
  refine (spec_goodBlock _ x.regs x.slots _ _ _ rfl rfl rfl HN.out.1 HN.out.2 A1 c1 x.b1 (Kd.C_below HR.out.2.1 HB1.out)).mono ?_
  rintro e w2 ⟨rfl, hb⟩
  have HB2 := sA (bC HB1.out hb); have HA2 := sA (bB HA1.out hb); clear hb
  cases h0 : blockOk x.regs x.slots x.b1 with
  | false =>
    have HV := sA (show x.valid = false by unfold Code.valid; rw [h0]; simp); clear h0
    go_wp2
    go_ret
    exact ⟨by rw [HV.out]; rfl, HB2.out⟩
  | true =>
  have G3 := sA h0; clear h0
  obtain ⟨b1, b2⟩ := lay0 HA2.out
  go_wp2_with fail
  clear b1 b2
  go_at_call 74
  refine (spec_goodBlock _ x.regs x.slots _ _ _ rfl rfl rfl HN.out.1 HN.out.2 A2 c2 x.b2 (Kd.C_below HR.out.2.2 HB2.out)).mono ?_
  rintro e w3 ⟨rfl, hb⟩
  have HB3 := sA (bC HB2.out hb); have HA3 := sA (bB HA2.out hb); clear hb
  cases h0 : blockOk x.regs x.slots x.b2 with
  | false =>
    have HV := sA (show x.valid = false by unfold Code.valid; rw [h0]; simp); clear h0
    go_wp2
    go_ret
    exact ⟨by rw [HV.out]; rfl, HB3.out⟩
  | true =>
  have G4 := sA h0; clear h0
  have HV := sA (show x.valid = true by unfold Code.valid; rw [G0.out, G1.out, G2.out, G3.out, G4.out]; rfl)
  go_wp2
  go_ret
  exact ⟨by rw [HV.out]; rfl, HB3.out⟩
end
end Go.Proofs.YtlhpbpkefkabgaaGreat.L1
namespace Go.Proofs.YtlhpbpkefkabgaaGreat.L1
open Go.RowKit Go.Proofs.YtlhpbpkefkabgaaGreatW.PrintWords Go.Proofs.YtlhpbpkefkabgaaGreat.B
set_option linter.unusedVariables false
set_option linter.unusedSimpArgs false
attribute [local go_sem] mk_cell mk_frozen
theorem ints_lit {W : World} {b : Nat} {t : TypeId} (xs : List Int) (h : W.heap[b]? = some (.cells (xs.map (Value.int .i64)).toArray t (0, 0))) (hl : xs.length ≤ 9223372036854775807) (c : Nat) : ReadInts W (.slice (some ⟨b, 0, none⟩) xs.length c) xs := by
  refine ⟨_, _, rfl, rfl, hl, fun _ => ⟨⟨b, 0, none⟩, rfl, fun j p hp => ⟨[.int .i64 p], rfl, rfl, fun i u hu => ?_⟩⟩⟩
  have hi : i = 0 := by
    rcases i with _ | i
    · rfl
    · simp at hu
  subst hi
  simp only [List.getElem?_cons_zero, Option.some.injEq] at hu
  subst hu
  have := blk_cell h j
  rw [List.getElem?_toArray, List.getElem?_map, hp] at this
  simp only [Option.map_some] at this
  have e : (⟨b, 0, none⟩ : Addr).add (j * kInt.sz + 0) = ⟨b, j, none⟩ := by
    rw [show j * kInt.sz + 0 = j from Nat.mul_one j, Addr.add_lit, Nat.zero_add]
  rw [e]; exact this
def named (o a b c : Int) : List Int := if o = 2 ∨ o = 3 ∨ o = 4 then [a, b] else if o = 17 then [] else if o = 19 then [b] else if 5 ≤ o ∧ o ≤ 12 then [a, b, c] else [a]
section
variable (w : World)
set_option maxRecDepth 100000 in
set_option maxHeartbeats 2000000 in
theorem impl_writes (o a b c : Int) : Calls Tryz.prog 155 #[.agg #[.int .i64 o, .int .i64 a, .int .i64 b, .int .i64 c]] w fun e w' => e = .returned (.bool (decide (o ≤ 14 ∨ o = 20))) ∧ Below w.heap.size w w' := by
  by_cases h1 : o ≤ 14
  · have p0 : decide (o ≤ 14) = true := by simp; omega
    have HL := sA (show decide (o ≤ 14 ∨ o = 20) = true by simp; omega); clear h1
    go_enter Tryz.func155, Tryz.ntmps155
    go_wp2
    go_ret
    exact ⟨by rw [HL.out]; rfl, bA (Below.refl _ _) _⟩
  have p0 : decide (o ≤ 14) = false := by simp; omega
  by_cases h2 : o = 20
  · subst h2
    clear h1
    go_enter Tryz.func155, Tryz.ntmps155
    go_wp2
    go_ret
    exact ⟨rfl, bA (Below.refl _ _) _⟩
  · have p1 : (o == 20) = false := by simp [h2]
    have p2 : decide (o = 20) = false := by simp [h2]
    have HL := sA (show decide (o ≤ 14 ∨ o = 20) = false by simp; omega); clear h1 h2
    go_enter Tryz.func155, Tryz.ntmps155
    go_wp2
    go_ret
    exact ⟨by rw [HL.out]; rfl, bA (Below.refl _ _) _⟩
set_option maxRecDepth 100000 in
set_option maxHeartbeats 2000000 in
theorem impl_registers (o a b c : Int) : Calls Tryz.prog 154 #[.agg #[.int .i64 o, .int .i64 a, .int .i64 b, .int .i64 c]] w fun e w' => (∃ u, e = .returned u ∧ ReadInts w' u (named o a b c)) ∧ Below w.heap.size w w' := by
  by_cases e2 : o = 2
  · subst e2
    have HL := sA (show named 2 a b c = [a, b] from rfl)
    go_enter Tryz.func154, Tryz.ntmps154
    go_wp2
    go_ret
    have h := al_new (w.alloc (.cells #[.int .i64 2, .int .i64 a, .int .i64 b, .int .i64 c] 99)) (.cells #[.int .i64 a, .int .i64 b] 2)
    rw [al_size] at h
    exact ⟨⟨_, rfl, by rw [HL.out]; exact ints_lit [a, b] h (by simp) _⟩, bA (bA (Below.refl _ _) _) _⟩
  by_cases e3 : o = 3
  · subst e3
    have HL := sA (show named 3 a b c = [a, b] from rfl)
    clear e2
    go_enter Tryz.func154, Tryz.ntmps154
    go_wp2
    go_ret
    have h := al_new (w.alloc (.cells #[.int .i64 3, .int .i64 a, .int .i64 b, .int .i64 c] 99)) (.cells #[.int .i64 a, .int .i64 b] 2)
    rw [al_size] at h
    exact ⟨⟨_, rfl, by rw [HL.out]; exact ints_lit [a, b] h (by simp) _⟩, bA (bA (Below.refl _ _) _) _⟩
  by_cases e4 : o = 4
  · subst e4
    have HL := sA (show named 4 a b c = [a, b] from rfl)
    clear e2 e3
    go_enter Tryz.func154, Tryz.ntmps154
    go_wp2
    go_ret
    have h := al_new (w.alloc (.cells #[.int .i64 4, .int .i64 a, .int .i64 b, .int .i64 c] 99)) (.cells #[.int .i64 a, .int .i64 b] 2)
    rw [al_size] at h
    exact ⟨⟨_, rfl, by rw [HL.out]; exact ints_lit [a, b] h (by simp) _⟩, bA (bA (Below.refl _ _) _) _⟩
  by_cases e17 : o = 17
  · subst e17
    have HL := sA (show named 17 a b c = [] from rfl)
    clear e2 e3 e4
    go_enter Tryz.func154, Tryz.ntmps154
    go_wp2
    go_ret
    exact ⟨⟨_, rfl, by rw [HL.out]; exact ⟨none, 0, rfl, rfl, by decide, fun h => absurd h (by decide)⟩⟩, bA (Below.refl _ _) _⟩
  by_cases e19 : o = 19
  · subst e19
    have HL := sA (show named 19 a b c = [b] from rfl)
    clear e2 e3 e4 e17
    go_enter Tryz.func154, Tryz.ntmps154
    go_wp2
    go_ret
    have h := al_new (w.alloc (.cells #[.int .i64 19, .int .i64 a, .int .i64 b, .int .i64 c] 99)) (.cells #[.int .i64 b] 2)
    rw [al_size] at h
    exact ⟨⟨_, rfl, by rw [HL.out]; exact ints_lit [b] h (by simp) _⟩, bA (bA (Below.refl _ _) _) _⟩
  have f2 : (o == 2) = false := by simp [e2]
  have g2 : decide (o = 2) = false := by simp [e2]
  have f3 : (o == 3) = false := by simp [e3]
  have g3 : decide (o = 3) = false := by simp [e3]
  have f4 : (o == 4) = false := by simp [e4]
  have g4 : decide (o = 4) = false := by simp [e4]
  have f17 : (o == 17) = false := by simp [e17]
  have g17 : decide (o = 17) = false := by simp [e17]
  have f19 : (o == 19) = false := by simp [e19]
  have g19 : decide (o = 19) = false := by simp [e19]
  by_cases h1 : 5 ≤ o ∧ o ≤ 12
  · have p0 : decide (5 ≤ o) = true := by simp; omega
    have p1 : decide (o ≤ 12) = true := by simp; omega
    have HL := sA (show named o a b c = [a, b, c] by unfold named; simp [e2, e3, e4, e17, e19, h1])
    clear h1 e2 e3 e4 e17 e19
    go_enter Tryz.func154, Tryz.ntmps154
    go_wp2
    go_ret
    have h := al_new (w.alloc (.cells #[.int .i64 o, .int .i64 a, .int .i64 b, .int .i64 c] 99)) (.cells #[.int .i64 a, .int .i64 b, .int .i64 c] 2)
    rw [al_size] at h
    exact ⟨⟨_, rfl, by rw [HL.out]; exact ints_lit [a, b, c] h (by simp) _⟩, bA (bA (Below.refl _ _) _) _⟩
  · have HL := sA (show named o a b c = [a] by unfold named; simp [e2, e3, e4, e17, e19, h1])
    rcases Int.lt_or_le o 5 with h5 | h5
    · have p0 : decide (5 ≤ o) = false := by simp; omega
      clear h1 h5 e2 e3 e4 e17 e19
      go_enter Tryz.func154, Tryz.ntmps154
      go_wp2
      go_ret
      have h := al_new (w.alloc (.cells #[.int .i64 o, .int .i64 a, .int .i64 b, .int .i64 c] 99)) (.cells #[.int .i64 a] 2)
      rw [al_size] at h
      exact ⟨⟨_, rfl, by rw [HL.out]; exact ints_lit [a] h (by simp) _⟩, bA (bA (Below.refl _ _) _) _⟩
    · have p0 : decide (5 ≤ o) = true := by simp; omega
      have p1 : decide (o ≤ 12) = false := by simp; omega
      clear h1 h5 e2 e3 e4 e17 e19
      go_enter Tryz.func154, Tryz.ntmps154
      go_wp2
      go_ret
      have h := al_new (w.alloc (.cells #[.int .i64 o, .int .i64 a, .int .i64 b, .int .i64 c] 99)) (.cells #[.int .i64 a] 2)
      rw [al_size] at h
      exact ⟨⟨_, rfl, by rw [HL.out]; exact ints_lit [a] h (by simp) _⟩, bA (bA (Below.refl _ _) _) _⟩
end
end Go.Proofs.YtlhpbpkefkabgaaGreat.L1
