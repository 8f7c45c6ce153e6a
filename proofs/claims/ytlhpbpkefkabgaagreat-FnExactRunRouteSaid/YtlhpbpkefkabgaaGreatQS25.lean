/- slices.Clone and slices.Contains over rows of numbers. A frame that goes on from a state. The verdict on a state that is not dead, as the program tells it. The machine from its start over the stops of a route: plain law. -/
import Derived.Test.YtlhpbpkefkabgaaGreatQS23
import Derived.Test.YtlhpbpkefkabgaaGreatQS18
import Derived.Test.YtlhpbpkefkabgaaGreatQS13
import Derived.Test.YtlhpbpkefkabgaaGreatQS14
import Derived.Lib.SliceRun
import Derived.Test.YtlhpbpkefkabgaaGreatQS24
import Derived.Test.YtlhpbpkefkabgaaGreatQS19
namespace Go.Proofs.YtlhpbpkefkabgaaGreat.L1
open Go.RowKit Go.Proofs.YtlhpbpkefkabgaaGreatW.PrintWords Go.Proofs.YtlhpbpkefkabgaaGreat.B
set_option linter.unusedVariables false
set_option linter.unusedSimpArgs false
attribute [local go_sem] mk_cell mk_frozen
section
variable (w : World)
set_option maxRecDepth 100000 in
set_option maxHeartbeats 2000000 in
theorem impl_clone (S : Option Addr) (c : Nat) (xs : List Int) (hC : kInt.C w S xs.length xs) (hl : xs.length ≤ 1000000000) : Calls Tryz.prog 102 #[.slice S xs.length c] w fun e w' => ∃ v, e = .returned v ∧ kInt.R 2 w' w.heap.size (fun _ => True) v xs ∧ Below w.heap.size w w' := by
  rcases S with _ | A
  · have hx : xs = [] := by
      rcases xs with _ | ⟨y, ys⟩
      · rfl
      · obtain ⟨ad, e, _⟩ := hC.2.2 (by simp); cases e
    subst hx
    clear hC hl
    have hnil := Go.Lib.run_eql_slice_nil (P := Tryz.prog) w 30 _ none 0 c 0 0 Tryz.underlying30
    go_enter Tryz.func102, Tryz.ntmps102
    go_wp2
    go_ret
    exact ⟨_, rfl, Kd.R_nil kInt 2 w w.heap.size _, Below.refl _ _⟩
  · have HC := sA hC; have HN := sA hl; clear hC hl
    have hlit := flat_lit (d := kInt) rfl w w.heap.size 2 [] (Nat.le_refl _) (by simp)
    have HL := sA hlit; clear hlit
    have HB := sA (bA (Below.refl w.heap.size w) (.cells #[] 2))
    have HC1 := sA (Kd.C_below HC.out HB.out)
    have hnil := Go.Lib.run_eql_slice_nil (P := Tryz.prog) w 30 _ (some A) xs.length c 0 0 Tryz.underlying30
    go_enter Tryz.func102, Tryz.ntmps102
    go_wp2_with (refine Kd.flat_append_row kInt rfl (w0 := w) w.heap.size rfl _ _ 30 2 0 8 rfl Tryz.underlying30 (by kernel_rfl) (by decide) (by decide) _ [] xs _ _ _ rfl rfl HL.out HC1.out HB.out HB.out.size (by have := HN.out; simp; omega) ?_; intro v2 w2 hr2 hb2 _ _; have HR2 := sA hr2; have HB2 := sA hb2; clear hr2 hb2)
    go_ret
    exact ⟨_, rfl, HR2.out, HB2.out⟩
set_option maxRecDepth 100000 in
set_option maxHeartbeats 2000000 in
theorem impl_index (R : Option Addr) (rc : Nat) (xs : List Int) (t : Int) (hr : kInt.C w R xs.length xs) :
    Calls Tryz.prog 101 #[.slice R xs.length rc, .int .i64 t] w fun e w' => (∃ r : Int, e = .returned (.int .i64 r) ∧ decide (0 ≤ r) = !(allI xs.length fun k => !(xs.getD k 0 == t))) ∧ w' = w := by
  have hml := hr.2.1
  have HR := sA hr; clear hr
  go_enter Tryz.func101, Tryz.ntmps101
  go_wp2_with fail
  go_loopg [5, 8] (xs.length + 1) (fun q _ v8 wr => ∃ k, q = xs.length + 1 - k ∧ k ≤ xs.length ∧ v8 = .int .i64 k ∧ Aside0 (∀ j, j < k → (xs.getD j 0 == t) = false) ∧ wr = w)
  case atStart => exact ⟨0, by omega, by omega, rfl, ⟨fun j hj => absurd hj (Nat.not_lt_zero _)⟩, rfl⟩
  case round =>
    obtain ⟨k, rfl, hk, rfl, HN, rfl⟩ := hrel
    by_cases hlt : k < xs.length
    · obtain ⟨ad, e0, t0, t1⟩ := Kd.flat_cells (d := kInt) rfl HR.out 0 k hlt
      cases e0
      have z3 := t0 _ rfl; simp only [Nat.mul_one] at z3
      clear t0 t1
      generalize hy : xs.getD k 0 = y at z3
      have HY := sA hy; clear hy
      cases hq : (y == t) with
      | true =>
        have hq' : decide (t = y) = true := decide_eq_true (beq_iff_eq.1 hq).symm
        have hqb : (t == y) = true := beq_iff_eq.2 (beq_iff_eq.1 hq).symm
        have HL := sA (show (!(allI xs.length fun k => !(xs.getD k 0 == t))) = true by rw [allI_false hlt (by rw [HY.out, hq]; rfl)]; rfl)
        clear hq
        go_wp2
        go_ret
        exact ⟨⟨(k : Int), rfl, by rw [HL.out]; simp⟩, rfl⟩
      | false =>
        have hq' : decide (t = y) = false := decide_eq_false fun e => by rw [e] at hq; simp at hq
        have hqb : (t == y) = false := beq_eq_false_iff_ne.2 fun e => by rw [e] at hq; simp at hq
        have HN1 := sA (show ∀ j, j < k + 1 → (xs.getD j 0 == t) = false from fun j hj => by
          rcases Nat.lt_or_ge j k with h | h
          · exact HN.out j h
          · rw [show j = k by omega, HY.out]; exact hq)
        clear hq
        go_wp2
        go_roundg (xs.length + 1 - (k + 1))
        case measure => omega
        case rel => exact ⟨k + 1, rfl, hlt, by go_num, HN1, rfl⟩
    · have HL := sA (show (!(allI xs.length fun k => !(xs.getD k 0 == t))) = false by rw [allI_iff.2 fun j hj => by rw [HN.out j (by omega)]; rfl]; rfl)
      go_wp2
      go_ret
      exact ⟨⟨-1, rfl, by rw [HL.out]; rfl⟩, rfl⟩
set_option maxRecDepth 100000 in
set_option maxHeartbeats 2000000 in
theorem impl_contains (R : Option Addr) (rc : Nat) (xs : List Int) (t : Int) (hr : kInt.C w R xs.length xs) :
    Calls Tryz.prog 66 #[.slice R xs.length rc, .int .i64 t] w fun e w' => e = .returned (.bool (!(allI xs.length fun k => !(xs.getD k 0 == t)))) ∧ w' = w := by
  have hc := impl_index w R rc xs t hr
  go_enter Tryz.func66, Tryz.ntmps66
  go_wp2_with (go_at_call 101; refine hc.mono ?_; rintro e w' ⟨⟨r, rfl, h0⟩, rfl⟩; have H := sA h0; clear h0)
  go_ret
  exact ⟨by show Ending.returned (Value.bool (decide (0 ≤ r))) = _; rw [H.out], rfl⟩
end
end Go.Proofs.YtlhpbpkefkabgaaGreat.L1
namespace Go.Proofs.YtlhpbpkefkabgaaGreat.L1
open Go.RowKit Go.Proofs.YtlhpbpkefkabgaaGreatW.PrintWords Go.Proofs.YtlhpbpkefkabgaaGreat.B
set_option linter.unusedVariables false
set_option linter.unusedSimpArgs false
attribute [local go_sem] mk_cell mk_frozen
/-- The three rows that are cloned, by the place of their call. -/
def rowsOf (s : St) (i : Nat) : List Int := if i = 16 then s.s0 else if i = 19 then s.s1 else s.s2
def CloneG (f : Nat → List Int) (i : Nat) (v : Value) (lo hi : Nat) (W : World) : Prop := kInt.R 2 W lo (fun k => k < hi) v (f i)
theorem CloneG.of {f : Nat → List Int} {i : Nat} {v : Value} {W W' : World} {xs : List Int} (e : f i = xs) (h : kInt.R 2 W' W.heap.size (fun _ => True) v xs) : CloneG f i v W.heap.size W'.heap.size W' := by
  unfold CloneG; rw [e]
  exact Kd.R_mono (Kd.R_bound h) fun k hk => hk.2.2.1
theorem CloneG.own {f : Nat → List Int} {i : Nat} {v : Value} {W : World} {lo hi : Nat} (h : CloneG f i v lo hi W) {k : Nat} (hk : v.ownBlock = some k) : lo ≤ k ∧ k < hi := by
  have := (Kd.R_bound h).1 k hk
  exact ⟨this.2.1, this.1⟩
/-- What a frame is when it goes on from a state. -/
def FromP (w w' : World) (c : Code) (A0 : Option Addr) (c0 : Nat) (A1 : Option Addr) (c1 : Nat) (A2 : Option Addr) (c2 : Nat) (x : Inst) (B0 : Option Addr) (d0 : Nat) (B1 : Option Addr) (d1 : Nat) (B2 : Option Addr) (d2 : Nat) (kv : Nat) (s : St) (g : Nat) (s0 : Value) (ga cR : Nat) (s2 : Value) : Prop :=
  w'.heap[g]? = some (.cells (frameC s.pos s.node s.time s.dist s.load (.int .i64 c.regs) (.int .i64 c.slots) (.slice A0 c.b0.length c0) (.slice A1 c.b1.length c1) (.slice A2 c.b2.length c2) (.slice B0 x.vs.length d0) (.slice B1 x.qs.length d1) (.slice B2 x.rs.length d2) kv (-1) s0 (.slice (some ⟨ga, 0, none⟩) s.s1.length cR) s2 0) 125 (0, 0)) ∧ w.heap.size ≤ g ∧ w.heap.size ≤ ga ∧
  kInt.R 2 w' w.heap.size (fun _ => True) s0 s.s0 ∧ kInt.R 2 w' w.heap.size (fun _ => True) (.slice (some ⟨ga, 0, none⟩) s.s1.length cR) s.s1 ∧ kInt.R 2 w' w.heap.size (fun _ => True) s2 s.s2 ∧
  s2.ownBlock ≠ some ga ∧ s0.ownBlock ≠ some ga ∧ (∀ k, s0.ownBlock = some k → s2.ownBlock ≠ some k) ∧ Below w.heap.size w w'
section
variable (w : World)
set_option maxRecDepth 100000 in
set_option maxHeartbeats 8000000 in
theorem impl_from (c : Code) (A0 : Option Addr) (c0 : Nat) (A1 : Option Addr) (c1 : Nat) (A2 : Option Addr) (c2 : Nat) (x : Inst) (B0 : Option Addr) (d0 : Nat) (B1 : Option Addr) (d1 : Nat) (B2 : Option Addr) (d2 : Nat) (kv : Nat) (s : St) (S0 : Option Addr) (g0 : Nat) (S1 : Option Addr) (g1 : Nat) (S2 : Option Addr) (g2 : Nat) (h0 : kInt.C w S0 s.s0.length s.s0) (h1 : kInt.C w S1 s.s1.length s.s1) (h2 : kInt.C w S2 s.s2.length s.s2) (hp : 0 < s.s1.length) (l0 : s.s0.length ≤ 1000000000) (l1 : s.s1.length ≤ 1000000000) (l2 : s.s2.length ≤ 1000000000) :
    Calls Tryz.prog 67 #[.agg #[.int .i64 c.regs, .int .i64 c.slots, .slice A0 c.b0.length c0, .slice A1 c.b1.length c1, .slice A2 c.b2.length c2], .agg #[.slice B0 x.vs.length d0, .slice B1 x.qs.length d1, .slice B2 x.rs.length d2], .int .i64 kv, .agg #[.int .i64 s.pos, .int .i64 s.rule, .int .i64 s.node, .int .i64 s.time, .int .i64 s.dist, .int .i64 s.load, .slice S0 s.s0.length g0, .slice S1 s.s1.length g1, .slice S2 s.s2.length g2]] w fun e w' => ∃ g, e = .returned (.pointer (some ⟨g, 0, none⟩)) ∧ ∃ s0 ga cR s2, FromP w w' c A0 c0 A1 c1 A2 c2 x B0 d0 B1 d1 B2 d2 kv s g s0 ga cR s2 := by
  have HS := sA (And.intro h0 (And.intro h1 h2)); have HL := sA (And.intro l0 (And.intro l1 l2)); clear h0 h1 h2 l0 l1 l2
  obtain ⟨HB0, HKC0, HKI0, HKS0, HZ0⟩ := opens3 w (.cells #[.int .i64 c.regs, .int .i64 c.slots, .slice A0 c.b0.length c0, .slice A1 c.b1.length c1, .slice A2 c.b2.length c2] 41) (.cells #[.slice B0 x.vs.length d0, .slice B1 x.qs.length d1, .slice B2 x.rs.length d2] 47) (.cells #[.int .i64 s.pos, .int .i64 s.rule, .int .i64 s.node, .int .i64 s.time, .int .i64 s.dist, .int .i64 s.load, .slice S0 s.s0.length g0, .slice S1 s.s1.length g1, .slice S2 s.s2.length g2] 49)
  go_enter Tryz.func67, Tryz.ntmps67
  go_wp2_with fail
  refine Grow.wp_region_plan 23 ⟨[(16, 25), (19, 28), (22, 31)], fun i v lo hi W => CloneG (rowsOf s) i v lo hi W, fun i v lo hi W W' hb h => Kd.R_below h hb⟩ (by kernel_rfl) (by first | exact List.pairwise_singleton _ _ | simp) (by kernel_rfl) (by rfl) ?_
  dsimp only [List.take, List.drop]
  repeat ((first | (refine Grow.lexP_make (by rfl) (by rfl) (by intro W hj; obtain ⟨kc1, kc2⟩ := lay hj.out HKC0.out; obtain ⟨ki1, ki2⟩ := lay hj.out HKI0.out; obtain ⟨ks1, ks2⟩ := lay hj.out HKS0.out; go_simp; first | ((exact Grow.UponB.made ((impl_clone W S0 g0 s.s0 (Kd.C_below HS.out.1 (bC HB0.out hj.out)) HL.out.1).mono fun e w' h => by obtain ⟨v, he, hr, hb⟩ := h; exact ⟨v, he, CloneG.of (f := rowsOf s) (i := 16) rfl hr, hb⟩))) | ((exact Grow.UponB.made ((impl_clone W S1 g1 s.s1 (Kd.C_below HS.out.2.1 (bC HB0.out hj.out)) HL.out.2.1).mono fun e w' h => by obtain ⟨v, he, hr, hb⟩ := h; exact ⟨v, he, CloneG.of (f := rowsOf s) (i := 19) rfl hr, hb⟩))) | ((exact Grow.UponB.made ((impl_clone W S2 g2 s.s2 (Kd.C_below HS.out.2.2 (bC HB0.out hj.out)) HL.out.2.2).mono fun e w' h => by obtain ⟨v, he, hr, hb⟩ := h; exact ⟨v, he, CloneG.of (f := rowsOf s) (i := 22) rfl hr, hb⟩)))) ?_) | (refine Grow.lexP_do _ (by rfl) (by rfl) (by intro W hj; obtain ⟨kc1, kc2⟩ := lay hj.out HKC0.out; obtain ⟨ki1, ki2⟩ := lay hj.out HKI0.out; obtain ⟨ks1, ks2⟩ := lay hj.out HKS0.out; go_simp; first | exact Grow.UponB.val) ?_)); refine Grow.lexP_norm (fun K hK => ?_); go_simp; refine hK _ ?_; clear hK K)
  refine Grow.lexP_nil (fun u lo hi w1 hj hG hord => ?_)
  obtain ⟨m0, a0, b0, e0⟩ := hG 16 rfl
  obtain ⟨m1, a1, b1, e1⟩ := hG 19 rfl
  obtain ⟨m2, a2, b2, e2⟩ := hG 22 rfl
  have o1 := hord 16 19 rfl rfl (by kernel_rfl); have o2 := hord 19 22 rfl rfl (by kernel_rfl)
  clear hG hord
  dsimp only [List.foldl]
  generalize u 16 = v0 at *; generalize u 19 = v1 at *; generalize u 22 = v2 at *
  have n1 : ∀ k, v0.ownBlock = some k → v1.ownBlock = some k → False := fun k h h' => by have := m0.own h; have := m1.own h'; omega
  have n2 : ∀ k, v2.ownBlock = some k → v1.ownBlock = some k → False := fun k h h' => by have := m2.own h; have := m1.own h'; omega
  have n3 : ∀ k, v0.ownBlock = some k → v2.ownBlock = some k → False := fun k h h' => by have := m0.own h; have := m2.own h'; omega
  have r0 : kInt.R 2 w1 w.heap.size (fun _ => True) v0 s.s0 := Kd.R_mono (Kd.R_lower m0 (Nat.le_trans HB0.out.size a0)) fun _ _ => trivial
  have r1 : kInt.R 2 w1 w.heap.size (fun _ => True) v1 s.s1 := Kd.R_mono (Kd.R_lower m1 (Nat.le_trans HB0.out.size a1)) fun _ _ => trivial
  have r2 : kInt.R 2 w1 w.heap.size (fun _ => True) v2 s.s2 := Kd.R_mono (Kd.R_lower m2 (Nat.le_trans HB0.out.size a2)) fun _ _ => trivial
  clear m0 m1 m2 a0 b0 e0 a1 b1 e1 a2 b2 e2 o1 o2 u lo hi
  have hb := hj.out; clear hj
  have HB1 := sA (bC HB0.out hb); clear hb
  obtain ⟨D0, q0, rfl⟩ := Kd.R_slice r0
  obtain ⟨D2, q2, rfl⟩ := Kd.R_slice r2
  obtain ⟨ga, q1, rfl, _, _, ck, hck⟩ := Kd.R_form r1 hp
  have hga : w.heap.size ≤ ga := ((Kd.R_bound r1).1 ga rfl).2.1
  have hne : (Value.slice D2 s.s2.length q2).ownBlock ≠ some ga ∧ (Value.slice D0 s.s0.length q0).ownBlock ≠ some ga ∧ (∀ k, (Value.slice D0 s.s0.length q0).ownBlock = some k → (Value.slice D2 s.s2.length q2).ownBlock ≠ some k) := ⟨fun h => n2 ga h rfl, fun h => n1 ga h rfl, fun k h h' => n3 k h h'⟩
  have HR := sA (And.intro r0 (And.intro r1 (And.intro r2 (And.intro hga hne)))); clear r0 r1 r2 n1 n2 n3 hne hga hck
  go_wp2
  go_ret
  obtain ⟨r0, r1, r2, hga, hn1, hn2, hn3⟩ := HR.out
  refine ⟨w1.heap.size, rfl, .slice D0 s.s0.length q0, ga, q1, .slice D2 s.s2.length q2, al_new w1 _, HB1.out.size, hga, ?_, ?_, ?_, hn1, hn2, hn3, bel_box HB1.out _⟩
  · exact Kd.R_alloc r0 _
  · exact Kd.R_alloc r1 _
  · exact Kd.R_alloc r2 _
end
end Go.Proofs.YtlhpbpkefkabgaaGreat.L1
namespace Go.Proofs.YtlhpbpkefkabgaaGreat.L1
open Go.RowKit Go.Proofs.YtlhpbpkefkabgaaGreatW.PrintWords Go.Proofs.YtlhpbpkefkabgaaGreat.B
set_option linter.unusedVariables false
set_option linter.unusedSimpArgs false
attribute [local go_sem] mk_cell mk_frozen
section
variable (w : World)
set_option maxRecDepth 100000 in
set_option maxHeartbeats 8000000 in
theorem impl_finish_rule (c : Code) (A0 : Option Addr) (c0 : Nat) (A1 : Option Addr) (c1 : Nat) (A2 : Option Addr) (c2 : Nat) (x : Inst) (B0 : Option Addr) (d0 : Nat) (B1 : Option Addr) (d1 : Nat) (B2 : Option Addr) (d2 : Nat) (kv : Nat) (s : St) (S0 : Option Addr) (g0 : Nat) (S1 : Option Addr) (g1 : Nat) (S2 : Option Addr) (g2 : Nat) (hr : 0 ≤ s.rule) :
    Calls Tryz.prog 35 #[.agg #[.int .i64 c.regs, .int .i64 c.slots, .slice A0 c.b0.length c0, .slice A1 c.b1.length c1, .slice A2 c.b2.length c2], .agg #[.slice B0 x.vs.length d0, .slice B1 x.qs.length d1, .slice B2 x.rs.length d2], .int .i64 kv, .agg #[.int .i64 s.pos, .int .i64 s.rule, .int .i64 s.node, .int .i64 s.time, .int .i64 s.dist, .int .i64 s.load, .slice S0 s.s0.length g0, .slice S1 s.s1.length g1, .slice S2 s.s2.length g2]] w fun e w' => e = .returned (verV (finS c x kv s)) ∧ Below w.heap.size w w' := by
  obtain ⟨HB0, HKC0, HKI0, HKS0, HKR0, HZ0⟩ := opens4 w (.cells #[.int .i64 c.regs, .int .i64 c.slots, .slice A0 c.b0.length c0, .slice A1 c.b1.length c1, .slice A2 c.b2.length c2] 41) (.cells #[.slice B0 x.vs.length d0, .slice B1 x.qs.length d1, .slice B2 x.rs.length d2] 47) (.cells #[.int .i64 s.pos, .int .i64 s.rule, .int .i64 s.node, .int .i64 s.time, .int .i64 s.dist, .int .i64 s.load, .slice S0 s.s0.length g0, .slice S1 s.s1.length g1, .slice S2 s.s2.length g2] 49) (.cells #[.int .i64 0, .int .i64 0, .int .i64 0] 37)
  have hge : decide (0 ≤ s.rule) = true := decide_eq_true hr
  go_enter Tryz.func35, Tryz.ntmps35
  go_wp2_with ((with_reducible refine gate_store (t := 37) (p := 8) rfl ?_); refine wpList_putAll rfl rfl _ _ _ rfl (g := w.heap.size + 1 + 1 + 1) [.int .i64 2, .int .i64 s.pos, .int .i64 s.rule] rfl rfl (by kernel_rfl) (one_all rfl) HKR0.out rfl ?_; intro wz hX hT hz; clear hz; have HBz := sA (hT.below w (fun k hk => by rw [hk]; omega) HB0.out); have HKz := sA hX; clear hX hT)
  refine bodyPost_ret (results_cell Tryz.results35 rfl HKz.out Tryz.underlying37 rfl (by kernel_rfl)) rfl ⟨?_, HBz.out⟩
  unfold finS; rw [if_pos hr]; rfl
set_option maxRecDepth 100000 in
set_option maxHeartbeats 8000000 in
theorem impl_finish_one (c : Code) (A0 : Option Addr) (c0 : Nat) (A1 : Option Addr) (c1 : Nat) (A2 : Option Addr) (c2 : Nat) (x : Inst) (B0 : Option Addr) (d0 : Nat) (B1 : Option Addr) (d1 : Nat) (B2 : Option Addr) (d2 : Nat) (kv : Nat) (s : St) (S0 : Option Addr) (g0 : Nat) (S1 : Option Addr) (g1 : Nat) (S2 : Option Addr) (g2 : Nat) (h0 : kInt.C w S0 s.s0.length s.s0) (hr : ¬0 ≤ s.rule) (hp0 : 0 ≤ s.pos) (hp1 : s.pos ≤ 4096) (ho : someOne s.s0 = true) :
    Calls Tryz.prog 35 #[.agg #[.int .i64 c.regs, .int .i64 c.slots, .slice A0 c.b0.length c0, .slice A1 c.b1.length c1, .slice A2 c.b2.length c2], .agg #[.slice B0 x.vs.length d0, .slice B1 x.qs.length d1, .slice B2 x.rs.length d2], .int .i64 kv, .agg #[.int .i64 s.pos, .int .i64 s.rule, .int .i64 s.node, .int .i64 s.time, .int .i64 s.dist, .int .i64 s.load, .slice S0 s.s0.length g0, .slice S1 s.s1.length g1, .slice S2 s.s2.length g2]] w fun e w' => e = .returned (verV (finS c x kv s)) ∧ Below w.heap.size w w' := by
  have HS0 := sA h0; clear h0
  obtain ⟨HB0, HKC0, HKI0, HKS0, HKR0, HZ0⟩ := opens4 w (.cells #[.int .i64 c.regs, .int .i64 c.slots, .slice A0 c.b0.length c0, .slice A1 c.b1.length c1, .slice A2 c.b2.length c2] 41) (.cells #[.slice B0 x.vs.length d0, .slice B1 x.qs.length d1, .slice B2 x.rs.length d2] 47) (.cells #[.int .i64 s.pos, .int .i64 s.rule, .int .i64 s.node, .int .i64 s.time, .int .i64 s.dist, .int .i64 s.load, .slice S0 s.s0.length g0, .slice S1 s.s1.length g1, .slice S2 s.s2.length g2] 49) (.cells #[.int .i64 0, .int .i64 0, .int .i64 0] 37)
  have hge : decide (0 ≤ s.rule) = false := decide_eq_false hr
  have HNR := sA hr; clear hr
  have qp : IntKind.i64.wrap (s.pos + 1) = s.pos + 1 := IntWalk.i64_in _ (by omega)
  have HC := sA (Kd.C_below HS0.out HB0.out)
  have HO := sA ho
  have hcon := fun W (h : kInt.C W S0 s.s0.length s.s0) => impl_contains W S0 g0 s.s0 1 h
  rw [show (!(allI s.s0.length fun k => !(s.s0.getD k 0 == 1))) = true from ho] at hcon
  clear ho
  go_enter Tryz.func35, Tryz.ntmps35
  go_wp2_with (first | (go_at_call 66; refine (hcon _ HC.out).mono ?_; rintro e w' ⟨rfl, rfl⟩) | ((with_reducible refine gate_store (t := 37) (p := 8) rfl ?_); refine wpList_putAll rfl rfl _ _ _ rfl (g := w.heap.size + 1 + 1 + 1) [.int .i64 2, .int .i64 (s.pos + 1), .int .i64 0] rfl rfl (by kernel_rfl) (one_all rfl) HKR0.out rfl ?_; intro wz hX hT hz; clear hz; have HBz := sA (hT.below w (fun k hk => by rw [hk]; omega) HB0.out); have HKz := sA hX; clear hX hT))
  refine bodyPost_ret (results_cell Tryz.results35 rfl HKz.out Tryz.underlying37 rfl (by kernel_rfl)) rfl ⟨?_, HBz.out⟩
  unfold finS; rw [if_neg (show ¬0 ≤ s.rule by have := HNR.out; omega), if_pos HO.out]; rfl
set_option maxRecDepth 100000 in
set_option maxHeartbeats 8000000 in
theorem impl_finish_run (c : Code) (A0 : Option Addr) (c0 : Nat) (A1 : Option Addr) (c1 : Nat) (A2 : Option Addr) (c2 : Nat) (x : Inst) (B0 : Option Addr) (d0 : Nat) (B1 : Option Addr) (d1 : Nat) (B2 : Option Addr) (d2 : Nat) (kv : Nat) (s : St) (S0 : Option Addr) (g0 : Nat) (S1 : Option Addr) (g1 : Nat) (S2 : Option Addr) (g2 : Nat) (h0 : kInt.C w S0 s.s0.length s.s0) (h1 : kInt.C w S1 s.s1.length s.s1) (h2 : kInt.C w S2 s.s2.length s.s2) (hI : ReadInst w (.agg #[.slice B0 x.vs.length d0, .slice B1 x.qs.length d1, .slice B2 x.rs.length d2]) x) (hK : kIns.C w A2 c.b2.length c.b2) (hR : Run c x kv s) (ho : someOne s.s0 = false) :
    Calls Tryz.prog 35 #[.agg #[.int .i64 c.regs, .int .i64 c.slots, .slice A0 c.b0.length c0, .slice A1 c.b1.length c1, .slice A2 c.b2.length c2], .agg #[.slice B0 x.vs.length d0, .slice B1 x.qs.length d1, .slice B2 x.rs.length d2], .int .i64 kv, .agg #[.int .i64 s.pos, .int .i64 s.rule, .int .i64 s.node, .int .i64 s.time, .int .i64 s.dist, .int .i64 s.load, .slice S0 s.s0.length g0, .slice S1 s.s1.length g1, .slice S2 s.s2.length g2]] w fun e w' => e = .returned (verV (finS c x kv s)) ∧ Below w.heap.size w w' := by
  have HS := sA (And.intro h0 (And.intro h1 h2)); have HR := sA hR; have HX := sA hI; have HK := sA hK; clear h0 h1 h2 hR hI hK
  obtain ⟨HB0, HKC0, HKI0, HKS0, HKR0, HZ0⟩ := opens4 w (.cells #[.int .i64 c.regs, .int .i64 c.slots, .slice A0 c.b0.length c0, .slice A1 c.b1.length c1, .slice A2 c.b2.length c2] 41) (.cells #[.slice B0 x.vs.length d0, .slice B1 x.qs.length d1, .slice B2 x.rs.length d2] 47) (.cells #[.int .i64 s.pos, .int .i64 s.rule, .int .i64 s.node, .int .i64 s.time, .int .i64 s.dist, .int .i64 s.load, .slice S0 s.s0.length g0, .slice S1 s.s1.length g1, .slice S2 s.s2.length g2] 49) (.cells #[.int .i64 0, .int .i64 0, .int .i64 0] 37)
  have hr : ¬0 ≤ s.rule := by have := HR.out.rule; omega
  have hge : decide (0 ≤ s.rule) = false := decide_eq_false hr
  have HNR := sA hr; clear hr
  have HC := sA (Kd.C_below HS.out.1 HB0.out)
  have HO := sA ho
  have hcon := fun W (h : kInt.C W S0 s.s0.length s.s0) => impl_contains W S0 g0 s.s0 1 h
  rw [show (!(allI s.s0.length fun k => !(s.s0.getD k 0 == 1))) = false from ho] at hcon
  clear ho
  go_enter Tryz.func35, Tryz.ntmps35
  go_wp2_with (go_at_call 66; refine (hcon _ HC.out).mono ?_; rintro e w' ⟨rfl, rfl⟩)
  clear hcon hge
  generalize ((((w.alloc (.cells #[.int .i64 c.regs, .int .i64 c.slots, .slice A0 c.b0.length c0, .slice A1 c.b1.length c1, .slice A2 c.b2.length c2] 41)).alloc (.cells #[.slice B0 x.vs.length d0, .slice B1 x.qs.length d1, .slice B2 x.rs.length d2] 47)).alloc (.cells #[.int .i64 s.pos, .int .i64 s.rule, .int .i64 s.node, .int .i64 s.time, .int .i64 s.dist, .int .i64 s.load, .slice S0 s.s0.length g0, .slice S1 s.s1.length g1, .slice S2 s.s2.length g2] 49)).alloc (.cells #[.int .i64 0, .int .i64 0, .int .i64 0] 37)) = W0 at *
  obtain ⟨f13, f1000, fs0, fs1, fb0, fb1, fb2⟩ := Code.facts HR.out.cv
  have hz1 := HR.out.z1
  have hln : 13 ≤ s.s1.length := by omega
  have HLN := sA hln
  have hsm : s.s0.length ≤ 1000000000 ∧ s.s1.length ≤ 1000000000 ∧ s.s2.length ≤ 1000000000 := by
    obtain ⟨e0, e1, e2⟩ := Inst.few_of HR.out.val
    have hz0 := HR.out.z0; have hz2 := HR.out.z2
    refine ⟨by omega, by omega, ?_⟩
    have : (c.slots * x.qs.length : Int) ≤ 100 * 1000 := Int.mul_le_mul fs1 (by omega) (by omega) (by omega)
    omega
  have HSM := sA hsm; have HFC := sA (And.intro f13 (And.intro fs0 (And.intro fs1 fb2))); clear hsm f13 f1000 fs0 fs1 fb0 fb1 fb2 hz1 hln
  go_at_call 67
  refine (impl_from W0 c A0 c0 A1 c1 A2 c2 x B0 d0 B1 d1 B2 d2 kv s S0 g0 S1 g1 S2 g2 (Kd.C_below HS.out.1 HB0.out) (Kd.C_below HS.out.2.1 HB0.out) (Kd.C_below HS.out.2.2 HB0.out) (by have := HLN.out; omega) HSM.out.1 HSM.out.2.1 HSM.out.2.2).mono ?_
  rintro e w1 ⟨g, rfl, s0, ga, cR, s2, hF⟩
  have HF := sA hF; clear hF
  go_wp2_with fail
  go_at_call 68
  obtain ⟨f1, f2, f3, f4, f5, f6, f7, f8, _, fb⟩ := HF.out
  refine (impl_arrive_home w1 W0 g ga s.s1.length cR s.pos s.node s.time s.dist s.load (.int .i64 c.regs) (.int .i64 c.slots) (.slice A0 c.b0.length c0) (.slice A1 c.b1.length c1) (.slice A2 c.b2.length c2) B0 d0 B1 d1 B2 d2 x kv (-1) s0 s2 0 s.s1 s.s2 s.s0 (HX.out.below HB0.out) HR.out.val HR.out.hv fb f1 f2 f3 f5 f6 f4 f7 f8 HLN.out HR.out.n0 HR.out.n1 HR.out.p0 HR.out.p1 s ⟨rfl, rfl, rfl, rfl, rfl⟩).mono ?_
  clear f1 f2 f3 f4 f5 f6 f7 f8 fb
  rintro e w2 ⟨rfl, hb2, ⟨t', d', l', hg2, _⟩, hr2, hs2, ht2⟩
  have HM2 := sA (And.intro hb2 (And.intro hg2 (And.intro hr2 (And.intro hs2 ht2)))); clear hg2 hr2 hs2 ht2
  obtain ⟨kc1, kc2⟩ := lay hb2 HKC0.out
  clear hb2
  go_wp2_with fail
  clear kc1 kc2
  go_at_call 69
  obtain ⟨hb2, hg2, hr2, hs2, ht2⟩ := HM2.out
  obtain ⟨f1, f2, f3, f4, f5, f6, f7, f8, f9, fb⟩ := HF.out
  have HMI : MInv W0 (fun br => frameC (s.pos + 1) kv t' d' l' (.int .i64 c.regs) (.int .i64 c.slots) (.slice A0 c.b0.length c0) (.slice A1 c.b1.length c1) (.slice A2 c.b2.length c2) (.slice B0 x.vs.length d0) (.slice B1 x.qs.length d1) (.slice B2 x.rs.length d2) kv (-1) s0 (.slice (some ⟨ga, 0, none⟩) s.s1.length cR) s2 br) g ga s.s1.length cR s2 s0 s.s0 w2 (finM x kv s) := ⟨hb2, f2, f3, by show (nextA x kv s kv ++ s.s1.drop 13).length = _; rw [List.length_append, nextA_len, List.length_drop]; have := HLN.out; omega, hg2, hr2, hs2, f7, ht2, f8, f9⟩
  clear hb2 hg2 hr2 hs2 ht2 f1 f2 f3 f4 f5 f6 f7 f8 f9 fb
  have hXI := HX.out.below HB0.out
  obtain ⟨C0, k0, C1, k1, C2, k2, he, b0, b1, b2⟩ := hXI; clear b2
  have he1 : B0 = C0 ∧ B1 = C1 := by injection he with he; simp at he; exact ⟨he.1.1, he.2.1.1⟩
  obtain ⟨rfl, rfl⟩ := he1
  refine (impl_run w2 W0 (s.pos + 1) kv t' d' l' (.int .i64 c.regs) (.int .i64 c.slots) (.slice A0 c.b0.length c0) (.slice A1 c.b1.length c1) (.slice A2 c.b2.length c2) B0 d0 B1 d1 B2 d2 x kv (-1) s0 s2 g ga s.s1.length cR c.regs c.slots (finM x kv s) s.s0 HMI HR.out.fin b0 b1 HR.out.val HR.out.hv HFC.out.2.1 HFC.out.2.2.1 rfl HFC.out.1 A2 c2 c.b2 (Kd.C_below HK.out HB0.out) HFC.out.2.2.2).mono ?_
  clear HMI b0 b1 he
  rintro e w3 ⟨rfl, hM⟩
  have hrl : (runB (envOf x kv (-1)) c.b2 (finM x kv s)).rule = -1 ∨ (1 ≤ (runB (envOf x kv (-1)) c.b2 (finM x kv s)).rule ∧ (runB (envOf x kv (-1)) c.b2 (finM x kv s)).rule ≤ 100) := exec_rule HFC.out.2.2.2 c.b2.length 0 (finM x kv s) (E := envOf x kv (-1)) rfl
  have hfin : finS c x kv s = if 0 ≤ (runB (envOf x kv (-1)) c.b2 (finM x kv s)).rule then (2, s.pos + 1, (runB (envOf x kv (-1)) c.b2 (finM x kv s)).rule) else (1, 0, 0) := by
    unfold finS
    rw [if_neg (show ¬0 ≤ s.rule by have := HNR.out; omega), HO.out]; rfl
  have HFI := sA hfin; clear hfin
  have hfr := hM.fr
  have HB3 := sA (bC HB0.out hM.bel)
  have HKR3 := sA (bB HKR0.out hM.bel)
  clear hM
  generalize (runB (envOf x kv (-1)) c.b2 (finM x kv s)).rule = r at *
  unfold frameC at hfr
  have HFR := sA hfr; clear hfr
  have hpw : 0 ≤ s.pos := HR.out.p0
  rcases hrl with rfl | ⟨hr1, hr2⟩
  · rw [show brk (-1) = 0 from rfl] at HFR
    obtain ⟨fr1, fr2⟩ := lay0 HFR.out
    go_wp2_with ((with_reducible refine gate_store (t := 37) (p := 8) rfl ?_); refine wpList_putAll rfl rfl _ _ _ rfl (g := w.heap.size + 1 + 1 + 1) [.int .i64 1, .int .i64 0, .int .i64 0] rfl rfl (by kernel_rfl) (one_all rfl) HKR3.out rfl ?_; intro wz hX hT hz; clear hz; have HBz := sA (hT.below w (fun k hk => by rw [hk]; omega) HB3.out); have HKz := sA hX; clear hX hT)
    refine bodyPost_ret (results_cell Tryz.results35 rfl HKz.out Tryz.underlying37 rfl (by kernel_rfl)) rfl ⟨?_, HBz.out⟩
    rw [HFI.out]; rfl
  · have hbk : brk r = r := by unfold brk; rw [if_neg (by omega)]
    rw [hbk] at HFR
    obtain ⟨fr1, fr2⟩ := lay0 HFR.out
    have hd : decide (0 < r) = true := decide_eq_true (by omega)
    have HRR := sA (And.intro hr1 hr2)
    clear hr1 hr2 hbk
    go_wp2_with fail
    clear fr1 fr2
    refine Grow.wp_region_tail 9 (by kernel_rfl) (by kernel_rfl) ?_
    dsimp only [List.take, List.drop]
    repeat ((first | (refine Grow.lexP_do _ (by rfl) (by rfl) (by intro W hj; obtain ⟨fr1, fr2⟩ := lay hj.out HFR.out; go_simp; first | exact Grow.UponB.val) ?_)); refine Grow.lexP_norm (fun K hK => ?_); go_simp; refine hK _ ?_; clear hK K)
    refine Grow.lexP_nil (fun w4 hj => ?_)
    have HB4 := sA (bC HB3.out hj.out); have HKR4 := sA (bB HKR3.out hj.out); clear hj
    go_wp2_with ((with_reducible refine gate_store (t := 37) (p := 8) rfl ?_); refine wpList_putAll rfl rfl _ _ _ rfl (g := w.heap.size + 1 + 1 + 1) [.int .i64 2, .int .i64 (s.pos + 1), .int .i64 r] rfl rfl (by kernel_rfl) (one_all rfl) HKR4.out rfl ?_; intro wz hX hT hz; clear hz; have HBz := sA (hT.below w (fun k hk => by rw [hk]; omega) HB4.out); have HKz := sA hX; clear hX hT)
    refine bodyPost_ret (results_cell Tryz.results35 rfl HKz.out Tryz.underlying37 rfl (by kernel_rfl)) rfl ⟨?_, HBz.out⟩
    rw [HFI.out, if_pos (by have := HRR.out; omega)]; rfl
theorem impl_finish (c : Code) (A0 : Option Addr) (c0 : Nat) (A1 : Option Addr) (c1 : Nat) (A2 : Option Addr) (c2 : Nat) (x : Inst) (B0 : Option Addr) (d0 : Nat) (B1 : Option Addr) (d1 : Nat) (B2 : Option Addr) (d2 : Nat) (kv : Nat) (s : St) (S0 : Option Addr) (g0 : Nat) (S1 : Option Addr) (g1 : Nat) (S2 : Option Addr) (g2 : Nat) (h0 : kInt.C w S0 s.s0.length s.s0) (h1 : kInt.C w S1 s.s1.length s.s1) (h2 : kInt.C w S2 s.s2.length s.s2) (hI : ReadInst w (.agg #[.slice B0 x.vs.length d0, .slice B1 x.qs.length d1, .slice B2 x.rs.length d2]) x) (hK : kIns.C w A2 c.b2.length c.b2) (hR : 0 ≤ s.rule ∨ Run c x kv s) :
    Calls Tryz.prog 35 #[.agg #[.int .i64 c.regs, .int .i64 c.slots, .slice A0 c.b0.length c0, .slice A1 c.b1.length c1, .slice A2 c.b2.length c2], .agg #[.slice B0 x.vs.length d0, .slice B1 x.qs.length d1, .slice B2 x.rs.length d2], .int .i64 kv, .agg #[.int .i64 s.pos, .int .i64 s.rule, .int .i64 s.node, .int .i64 s.time, .int .i64 s.dist, .int .i64 s.load, .slice S0 s.s0.length g0, .slice S1 s.s1.length g1, .slice S2 s.s2.length g2]] w fun e w' => e = .returned (verV (finS c x kv s)) ∧ Below w.heap.size w w' := by
  rcases Int.lt_or_le s.rule 0 with hr | hr
  · have hR' : Run c x kv s := by rcases hR with h | h; omega; exact h
    cases ho : someOne s.s0 with
    | true => exact impl_finish_one w c A0 c0 A1 c1 A2 c2 x B0 d0 B1 d1 B2 d2 kv s S0 g0 S1 g1 S2 g2 h0 (by omega) hR'.p0 hR'.p1 ho
    | false => exact impl_finish_run w c A0 c0 A1 c1 A2 c2 x B0 d0 B1 d1 B2 d2 kv s S0 g0 S1 g1 S2 g2 h0 h1 h2 hI hK hR' ho
  · exact impl_finish_rule w c A0 c0 A1 c1 A2 c2 x B0 d0 B1 d1 B2 d2 kv s S0 g0 S1 g1 S2 g2 hr
end
end Go.Proofs.YtlhpbpkefkabgaaGreat.L1
namespace Go.Proofs.YtlhpbpkefkabgaaGreat.L1
open Go.RowKit Go.Proofs.YtlhpbpkefkabgaaGreatW.PrintWords Go.Proofs.YtlhpbpkefkabgaaGreat.B
set_option linter.unusedVariables false
set_option linter.unusedSimpArgs false
def failS (p r : Int) : St := ⟨p, r, 0, 0, 0, 0, [], [], []⟩
def startA (x : Inst) (v : Nat) : List Int :=
  [(x.placeAt v).o, 0, 0, 0, 0, 0, (x.placeAt v).o, (x.placeAt v).c, (x.placeAt v).h, (x.vs.getD v zV).room, 0, 0, 0]
def zeroS (n : Int) : List Int := List.replicate n.toNat 0
def startM (c : Code) (x : Inst) (v : Nat) : Mem := ⟨startA x v ++ (zeroS c.regs).drop 13, zeroS (c.slots * x.qs.length), -1⟩
def liveS (x : Inst) (v : Nat) (m : Mem) : St := ⟨0, -1, v, (x.placeAt v).o, 0, 0, zeroS x.qs.length, m.regs, m.slots⟩
def startS (c : Code) (x : Inst) (v : Nat) : St :=
  if 0 ≤ (runB (envOf x v (-1)) c.b0 (startM c x v)).rule then failS 0 (runB (envOf x v (-1)) c.b0 (startM c x v)).rule
  else liveS x v (runB (envOf x v (-1)) c.b0 (startM c x v))
def stepM (x : Inst) (v : Nat) (s : St) (n : Int) : Mem := ⟨nextA x v s n ++ s.s1.drop 13, s.s2, -1⟩
def goS (x : Inst) (v : Nat) (s : St) (n : Int) (m : Mem) : St :=
  ⟨s.pos + 1, -1, n, maxI (x.placeAt n).o (nextArr x s n), satAdd s.dist (x.leg s.node n), satAdd s.load ((bitI (x.pick n) - bitI (x.dropB n)) * x.sizeAt n),
    putI s.s0 (x.reqI n) (atI s.s0 (x.reqI n) + 1), m.regs, m.slots⟩
def stepS (c : Code) (x : Inst) (v : Nat) (s : St) (n : Int) : St :=
  if 0 ≤ s.rule then s else if atI s.s0 (x.reqI n) ≠ (n - x.vs.length).tmod 2 then failS (s.pos + 1) 0
  else if 0 ≤ (runB (envOf x v (x.reqI n)) c.b1 (stepM x v s n)).rule then failS (s.pos + 1) (runB (envOf x v (x.reqI n)) c.b1 (stepM x v s n)).rule
  else goS x v s n (runB (envOf x v (x.reqI n)) c.b1 (stepM x v s n))
def afterS (c : Code) (x : Inst) (v : Nat) (xs : List Int) : St := xs.foldl (stepS c x v) (startS c x v)
theorem exec_mok {E : Env} {b : List Ins} {regs slots : Int} (hb : blockOk regs slots b = true) : ∀ (f k : Nat) (m : Mem), Mok E regs slots m → Mok E regs slots (exec E b f k m)
  | 0, _, m, h => h
  | f + 1, k, m, h => by
    unfold exec
    split
    · exact h
    · rename_i hk
      exact exec_mok hb f _ _ (stepI_ok h (blockOk_at hb (by omega)))
theorem zeroS_len {n : Int} (h : 0 ≤ n) : ((zeroS n).length : Int) = n := by unfold zeroS; rw [List.length_replicate]; omega
theorem zeroS_cap (n : Int) : Cap (zeroS n) := fun y hy => by
  rw [List.eq_of_mem_replicate hy]; omega
theorem startA_len (x : Inst) (v : Nat) : (startA x v).length = 13 := rfl
theorem startA_cap {x : Inst} {v : Nat} (h : x.valid = true) (hv : v < x.vs.length) : Cap (startA x v) := by
  obtain ⟨a1, a2, a3, a4, a5, a6⟩ := Place.facts (Inst.place_good h (n := (v : Int)) (by omega) (by unfold Inst.nodes; omega))
  have hr : 0 ≤ (x.vs.getD v zV).room ∧ (x.vs.getD v zV).room ≤ 1000000 := by
    have := Inst.veh_good h hv
    unfold Veh.good at this
    simp only [Bool.and_eq_true, inB_iff] at this
    exact this.1.1
  intro y hy
  unfold startA at hy
  simp only [List.mem_cons, List.not_mem_nil, or_false] at hy
  rcases hy with rfl | rfl | rfl | rfl | rfl | rfl | rfl | rfl | rfl | rfl | rfl | rfl | rfl <;> omega
theorem slots_nn {c : Code} {x : Inst} (h : c.valid = true) : 0 ≤ c.slots * (x.qs.length : Int) := by
  obtain ⟨_, _, a, _⟩ := Code.facts h
  exact Int.mul_nonneg a (by omega)
theorem start_mok {c : Code} {x : Inst} {v : Nat} (hc : c.valid = true) (hx : x.valid = true) (hv : v < x.vs.length) : Mok (envOf x v (-1)) c.regs c.slots (startM c x v) := by
  obtain ⟨k13, _⟩ := Code.facts hc
  have hz := zeroS_len (n := c.regs) (by omega)
  refine mok_of hc hx hv (by omega) (by omega) ?_ (zeroS_len (slots_nn hc)) (Cap.append (startA_cap hx hv) ((zeroS_cap _).drop 13)) (zeroS_cap _)
  rw [List.length_append, startA_len, List.length_drop]
  omega
/-- What a state is behind k stops. -/
def Fine (c : Code) (x : Inst) (v : Nat) (s : St) (k : Nat) : Prop :=
  (∃ p r, s = failS p r ∧ 0 ≤ r ∧ r ≤ 100 ∧ 0 ≤ p ∧ p ≤ k) ∨ (Run c x v s ∧ s.pos = k ∧ placeOk x v s.pos s.node = true)
theorem rule_of {c : Code} {b : List Ins} {E : Env} {m : Mem} (hb : blockOk c.regs c.slots b = true) (hm : m.rule = -1) : (runB E b m).rule = -1 ∨ (1 ≤ (runB E b m).rule ∧ (runB E b m).rule ≤ 100) := exec_rule hb b.length 0 m hm
theorem start_fine {c : Code} {x : Inst} {v : Nat} (hc : c.valid = true) (hx : x.valid = true) (hv : v < x.vs.length) : Fine c x v (startS c x v) 0 := by
  obtain ⟨f13, f1000, fs0, fs1, fb0, fb1, fb2⟩ := Code.facts hc
  have hr := rule_of (E := envOf x v (-1)) (m := startM c x v) fb0 rfl
  have hm := exec_mok fb0 c.b0.length 0 _ (start_mok hc hx hv)
  unfold startS
  split
  · rename_i h
    exact .inl ⟨0, _, rfl, h, by omega, by omega, by omega⟩
  · refine .inr ⟨?_, rfl, ?_⟩
    · obtain ⟨a1, a2, a3, a4, a5, a6⟩ := Place.facts (Inst.place_good hx (n := (v : Int)) (by omega) (by unfold Inst.nodes; omega))
      exact ⟨hx, hc, hv, rfl, by show (0 : Int) ≤ 0; omega, by show (0 : Int) ≤ 4096; omega, by show (0 : Int) ≤ v; omega, by show (v : Int) < x.nodes; unfold Inst.nodes; omega, a1, by show (x.placeAt v).o ≤ _; omega, by show (0 : Int) ≤ 0; omega, by show (0 : Int) ≤ 1000000000; omega, by show -1000000000 ≤ (0 : Int); omega, by show (0 : Int) ≤ 1000000000; omega,
        by show (zeroS x.qs.length).length = _; have := zeroS_len (n := x.qs.length) (by omega); omega, hm.rl, hm.sl, fun k hk => by
          have : (liveS x v (runB (envOf x v (-1)) c.b0 (startM c x v))).s0.getD k 0 = 0 := by
            show (zeroS x.qs.length).getD k 0 = 0
            unfold zeroS
            rw [List.getD_eq_getElem?_getD, List.getElem?_replicate]
            split <;> rfl
          rw [this]; omega, hm.rc, hm.sc⟩
    · exact (if_neg (show ¬(0 : Int) < 0 by omega)).trans (decide_eq_true rfl)
theorem stop_place {x : Inst} {v : Nat} {p n : Int} (hp : 0 < p) (h : x.stop n = true) : placeOk x v p n = true := by unfold placeOk; rw [if_pos hp]; exact h
theorem Run.step {c : Code} {x : Inst} {v : Nat} {s : St} (h : Run c x v s) {n : Int} (hn : x.stop n = true) : Mok (envOf x v (x.reqI n)) c.regs c.slots (stepM x v s n) := by
  obtain ⟨k13, _⟩ := Code.facts h.cv
  have hz := h.z1
  obtain ⟨q, d, hq, hd, e, hr, _⟩ := Inst.stop_bd hn
  refine mok_of h.cv h.val h.hv (by omega) (by omega) ?_ h.z2 (Cap.append (nextA_cap h.val h.hv (by omega) (by unfold Inst.nodes; omega) (by have := h.p0; omega) h.p1) (h.a1.drop 13)) h.a2
  rw [List.length_append, nextA_len, List.length_drop]
  omega
theorem step_fine {c : Code} {x : Inst} {v : Nat} {s : St} {k : Nat} (h : Fine c x v s k) (hk : k < 4096) {n : Int} (hn : x.stop n = true) : Fine c x v (stepS c x v s n) (k + 1) := by
  rcases h with ⟨p, r, rfl, h1, h2, h3, h4⟩ | ⟨hR, hp, _⟩
  · unfold stepS
    rw [if_pos (show 0 ≤ (failS p r).rule from h1)]
    exact .inl ⟨p, r, rfl, h1, h2, h3, by omega⟩
  · obtain ⟨f13, f1000, fs0, fs1, fb0, fb1, fb2⟩ := Code.facts hR.cv
    obtain ⟨q, d, hq, hd, e, hrq, hmd⟩ := Inst.stop_bd hn
    have hr := rule_of (E := envOf x v (x.reqI n)) (m := stepM x v s n) fb1 rfl
    have hm := exec_mok fb1 c.b1.length 0 _ (hR.step hn)
    unfold stepS
    rw [if_neg (by have := hR.rule; omega)]
    split
    · exact .inl ⟨_, _, rfl, by omega, by omega, by omega, by omega⟩
    rename_i hw
    split
    · rename_i h
      exact .inl ⟨_, _, rfl, h, by omega, by omega, by omega⟩
    · have h0 : 0 ≤ n := by omega
      have h1 : n < x.nodes := by unfold Inst.nodes; omega
      obtain ⟨a1, a2, a3, a4, a5, a6⟩ := Place.facts (Inst.place_good hR.val h0 h1)
      have hmx := maxI_bd (a := (x.placeAt n).o) (b := nextArr x s n) (by omega) (satAdd_bd _ _)
      have hmx0 : 0 ≤ maxI (x.placeAt n).o (nextArr x s n) := by unfold maxI; split <;> omega
      have hl := Inst.leg_bd hR.val s.node n
      have hd0 := hR.d0; have hd1 := hR.d1
      have hdd : 0 ≤ satAdd s.dist (x.leg s.node n) := by
        unfold satAdd clampI; split <;> split <;> split <;> omega
      refine .inr ⟨?_, by show s.pos + 1 = _; omega, stop_place (by show 0 < s.pos + 1; omega) hn⟩
      refine ⟨hR.val, hR.cv, hR.hv, rfl, by show 0 ≤ s.pos + 1; omega, by show s.pos + 1 ≤ 4096; omega, h0, h1, hmx0, hmx.2, hdd, (satAdd_bd _ _).2, (satAdd_bd _ _).1, (satAdd_bd _ _).2, ?_, hm.rl, hm.sl, fun k hk => ?_, hm.rc, hm.sc⟩
      · show (putI _ _ _).length = _
        unfold putI; rw [List.length_set]; exact hR.z0
      · have hk' : k < s.s0.length := by
          have : (putI s.s0 (x.reqI n) (atI s.s0 (x.reqI n) + 1)).length = s.s0.length := by unfold putI; rw [List.length_set]
          rw [← this]; exact hk
        show 0 ≤ (putI s.s0 (x.reqI n) (atI s.s0 (x.reqI n) + 1)).getD k 0 ∧ (putI s.s0 (x.reqI n) (atI s.s0 (x.reqI n) + 1)).getD k 0 ≤ 2
        have hw' : atI s.s0 (x.reqI n) = (n - x.vs.length).tmod 2 := Classical.not_not.1 hw
        unfold putI
        rw [List.getD_eq_getElem?_getD, List.getElem?_set]
        split
        · split
          · simp only [Option.getD_some]; rw [hw', hmd]; omega
          · simp only [Option.getD_none]; omega
        · rw [← List.getD_eq_getElem?_getD]; exact hR.a0 k hk'
theorem after_fine {c : Code} {x : Inst} {v : Nat} (hc : c.valid = true) (hx : x.valid = true) (hv : v < x.vs.length) {xs : List Int} (hs : x.stops xs = true) (hl : xs.length ≤ 4096) : ∀ k, k ≤ xs.length → Fine c x v (afterS c x v (xs.take k)) k
  | 0, _ => by rw [List.take_zero]; exact start_fine hc hx hv
  | k + 1, hk => by
    have hst : x.stop (xs.getD k 0) = true := allI_iff.1 hs k (by omega)
    have e : xs.take (k + 1) = xs.take k ++ [xs.getD k 0] := by
      rw [List.take_succ_eq_append_getElem (by omega), List.getD_eq_getElem?_getD, List.getElem?_eq_getElem (by omega)]; rfl
    rw [e]
    unfold afterS
    rw [List.foldl_append]
    exact step_fine (after_fine hc hx hv hs hl k (by omega)) (by omega) hst
theorem afterS_succ (c : Code) (x : Inst) (v : Nat) (xs : List Int) {k : Nat} (hk : k < xs.length) : afterS c x v (xs.take (k + 1)) = stepS c x v (afterS c x v (xs.take k)) (xs.getD k 0) := by
  have e : xs.take (k + 1) = xs.take k ++ [xs.getD k 0] := by
    rw [List.take_succ_eq_append_getElem (by omega), List.getD_eq_getElem?_getD, List.getElem?_eq_getElem (by omega)]; rfl
  rw [e]; unfold afterS; rw [List.foldl_append]; rfl
theorem Fine.ok {c : Code} {x : Inst} {v : Nat} {s : St} {k : Nat} (hc : c.valid = true) (hx : x.valid = true) (hv : v < x.vs.length) (h : Fine c x v s k) (hk : k ≤ 4096) : stateOk c x v s = true ∧ s.pos ≠ -1 ∧ s.small ∧ (0 ≤ s.rule ∨ Run c x v s) := by
  have ha : askOk c x v = true := by
    unfold askOk; rw [hc, hx, Bool.and_eq_true, Bool.and_eq_true]
    exact ⟨⟨rfl, rfl⟩, (inB_iff _ _ _).2 ⟨by omega, by omega⟩⟩
  rcases h with ⟨p, r, rfl, h1, h2, h3, h4⟩ | ⟨hR, hp, hpl⟩
  · refine ⟨?_, by show p ≠ -1; omega, ⟨by show ([] : List Int).length ≤ _; simp, by show ([] : List Int).length ≤ _; simp, by show ([] : List Int).length ≤ _; simp⟩, .inl h1⟩
    unfold stateOk St.ok
    rw [ha, if_pos (show 0 ≤ (failS p r).rule from h1), Bool.true_and, Bool.and_eq_true, Bool.and_eq_true]
    exact ⟨⟨rfl, (inB_iff _ _ _).2 ⟨h3, by show p ≤ 4097; omega⟩⟩, decide_eq_true h2⟩
  · obtain ⟨e0, e1, e2⟩ := Inst.few_of hx
    obtain ⟨f13, f1000, fs0, fs1, _⟩ := Code.facts hc
    have hz0 := hR.z0; have hz1 := hR.z1; have hz2 := hR.z2
    have hm : (c.slots * x.qs.length : Int) ≤ 100 * 1000 := Int.mul_le_mul fs1 (by omega) (by omega) (by omega)
    refine ⟨?_, by omega, ⟨by omega, by omega, by omega⟩, .inr hR⟩
    have all_of : ∀ {ys : List Int}, Cap ys → allIn ys (-1000000000) 1000000000 = true := fun {ys} hy => allI_iff.2 fun k hk => by
      rw [List.getD_eq_getElem?_getD, List.getElem?_eq_getElem hk]
      exact (inB_iff _ _ _).2 (hy _ (List.getElem_mem hk))
    unfold stateOk St.ok
    rw [ha, if_neg (by have := hR.rule; omega), if_neg (by rw [hR.rule]; simp), if_neg (by omega), Bool.true_and]
    unfold St.runOk
    simp only [Bool.and_eq_true, inB_iff, decide_eq_true_eq]
    have := hR.p0; have := hR.p1
    exact ⟨⟨⟨⟨⟨⟨⟨⟨⟨⟨⟨by omega, by omega⟩, hpl⟩, hR.t0, hR.t1⟩, hR.d0, hR.d1⟩, hR.l0, hR.l1⟩, by omega⟩, allI_iff.2 fun k hk => (inB_iff _ _ _).2 (hR.a0 k hk)⟩, hR.z1⟩, all_of hR.a1⟩, hR.z2⟩, all_of hR.a2⟩
def runV (c : Code) (x : Inst) (v : Int) (xs : List Int) : Int × Int × Int := if c.valid = true ∧ x.routeOk v xs = true then finS c x v.toNat (afterS c x v.toNat xs) else (0, 0, 0)
theorem Fine.fin {c : Code} {x : Inst} {v : Nat} {s : St} {k : Nat} (hc : c.valid = true) (hx : x.valid = true) (hv : v < x.vs.length) (h : Fine c x v s k) (hk : k ≤ 4096) : finV c x v s = finS c x v s := by
  obtain ⟨h1, h2, _⟩ := h.ok hc hx hv hk
  unfold finV
  rw [if_pos ⟨h1, h2⟩, Int.toNat_natCast]
end Go.Proofs.YtlhpbpkefkabgaaGreat.L1
