/- Travel of the reference and of the program; the law FnExactTravel's own walk. Rows of whole numbers, saturating sums: what the functions about routes need. What the laws' helpers answer over states: their copy, their comparison with themselves, their size. What the laws' helpers answer over code: its copy, its comparison with itself, its size. ValidCode of the reference. -/
import Derived.Test.YtlhpbpkefkabgaaGreatQS7
import Derived.Test.YtlhpbpkefkabgaaGreatQS3
namespace Go.Proofs.YtlhpbpkefkabgaaGreat.L1
open Go.RowKit Go.Proofs.YtlhpbpkefkabgaaGreatW.PrintWords Go.Proofs.YtlhpbpkefkabgaaGreat.B
set_option linter.unusedVariables false
set_option linter.unusedSimpArgs false
attribute [local go_sem] mk_cell mk_frozen
theorem inB_iff (x lo hi : Int) : inB x lo hi = true ↔ lo ≤ x ∧ x ≤ hi := by unfold inB; simp
theorem Place.near_of {p : Place} (h : p.good = true) : -10000 ≤ p.x ∧ p.x ≤ 10000 ∧ -10000 ≤ p.y ∧ p.y ≤ 10000 := by
  unfold Place.good at h
  simp only [Bool.and_eq_true, inB_iff] at h
  omega
theorem Inst.near_of {x : Inst} (h : x.valid = true) : x.near := by
  have hv : ∀ k, (x.vs.getD k zV).home.good = true := fun k => by
    rcases Nat.lt_or_ge k x.vs.length with hk | hk
    · cases hh : (x.vs.getD k zV).good with
      | true => unfold Veh.good at hh; simp only [Bool.and_eq_true] at hh; exact hh.2
      | false => rw [Inst.valid_vs hk hh] at h; cases h
    · rw [List.getD_eq_getElem?_getD, List.getElem?_eq_none hk]; decide
  have hq : ∀ k, (x.qs.getD k zQ).from_.good = true ∧ (x.qs.getD k zQ).to_.good = true := fun k => by
    rcases Nat.lt_or_ge k x.qs.length with hk | hk
    · cases hh : (x.qs.getD k zQ).good with
      | true => unfold Req.good at hh; simp only [Bool.and_eq_true] at hh; exact ⟨hh.1.2, hh.2⟩
      | false => rw [Inst.valid_qs hk hh] at h; cases h
    · rw [List.getD_eq_getElem?_getD, List.getElem?_eq_none hk]; decide
  intro n
  unfold Inst.placeAt
  split
  · exact Place.near_of (hv _)
  · split
    · exact Place.near_of (hq _).1
    · exact Place.near_of (hq _).2
theorem Inst.few_of {x : Inst} (h : x.valid = true) : x.vs.length ≤ 64 ∧ x.qs.length ≤ 1000 ∧ x.rs.length ≤ 4000 := by
  have : x.few = true := by
    cases hh : x.few with
    | true => rfl
    | false => rw [Inst.valid_few hh] at h; cases h
  unfold Inst.few at this
  simp at this
  omega
section
variable (w : World)
end
end Go.Proofs.YtlhpbpkefkabgaaGreat.L1
namespace Go.Proofs.YtlhpbpkefkabgaaGreat.L1
open Go.RowKit Go.Proofs.YtlhpbpkefkabgaaGreatW.PrintWords Go.Proofs.YtlhpbpkefkabgaaGreat.B
set_option linter.unusedVariables false
set_option linter.unusedSimpArgs false
attribute [local go_sem] mk_cell mk_frozen
def kInt : Kd Int := Kd.flat 1 (fun n => [.int .i64 n]) (fun _ => rfl) (by intro x u hu; simp at hu; rcases hu with rfl; rfl)
def ReadInts (w : World) (v : Value) (xs : List Int) : Prop := ∃ A c, v = .slice A xs.length c ∧ kInt.C w A xs.length xs
theorem ReadInts.below {w w1 : World} {v : Value} {xs : List Int} (h : ReadInts w v xs) (hb : Below w.heap.size w w1) : ReadInts w1 v xs := by
  obtain ⟨A, c, rfl, h0⟩ := h
  exact ⟨A, c, rfl, Kd.C_below h0 hb⟩
def clampI (a : Int) : Int := if 1000000000 < a then 1000000000 else if a < -1000000000 then -1000000000 else a
def satAdd (a b : Int) : Int := clampI (clampI a + clampI b)
theorem clamp_bd (a : Int) : -1000000000 ≤ clampI a ∧ clampI a ≤ 1000000000 := by unfold clampI; split; omega; split <;> omega
section
variable (w : World)
theorem spec_clamp (a : Int) : Calls Tryz.prog 92 #[.int .i64 a] w fun e w' => e = .returned (.int .i64 (clampI a)) ∧ w' = w := by
  go_enter Tryz.func92, Tryz.ntmps92
  go_wp2
  all_goals (go_ret; refine ⟨?_, rfl⟩; unfold clampI; (repeat' split) <;> first | rfl | (exfalso; omega) | (show Ending.returned (Value.int .i64 _) = _; congr 2; omega))
theorem impl_clamp (a : Int) : Calls Tryz.prog 124 #[.int .i64 a] w fun e w' => e = .returned (.int .i64 (clampI a)) ∧ w' = w := by
  go_enter Tryz.func124, Tryz.ntmps124
  go_wp2
  all_goals (go_ret; refine ⟨?_, rfl⟩; unfold clampI; (repeat' split) <;> first | rfl | (exfalso; omega) | (show Ending.returned (Value.int .i64 _) = _; congr 2; omega))
theorem impl_SatAdd (a b : Int) : Calls Tryz.prog 106 #[.int .i64 a, .int .i64 b] w fun e w' => e = .returned (.int .i64 (satAdd a b)) ∧ w' = w := by
  have q0 : IntKind.i64.wrap (clampI a + clampI b) = clampI a + clampI b := IntWalk.i64_in _ (by have := clamp_bd a; have := clamp_bd b; omega)
  go_enter Tryz.func106, Tryz.ntmps106
  go_wp2_with (first | (go_at_call 124; refine (impl_clamp _ _).mono ?_; rintro e w' ⟨rfl, rfl⟩))
  go_ret
  exact ⟨rfl, rfl⟩
theorem spec_SatAdd (a b : Int) : Calls Tryz.prog 52 #[.int .i64 a, .int .i64 b] w fun e w' => e = .returned (.int .i64 (satAdd a b)) ∧ w' = w := by
  have q0 : IntKind.i64.wrap (clampI a + clampI b) = clampI a + clampI b := IntWalk.i64_in _ (by have := clamp_bd a; have := clamp_bd b; omega)
  go_enter Tryz.func52, Tryz.ntmps52
  go_wp2_with (first | (go_at_call 92; refine (spec_clamp _ _).mono ?_; rintro e w' ⟨rfl, rfl⟩))
  go_ret
  exact ⟨rfl, rfl⟩
set_option maxHeartbeats 1000000 in
theorem toInt64S (A : Option Addr) (c : Nat) (xs : List Int) (hr : kInt.C w A xs.length xs) (hm : xs.length ≤ 1048576) : Calls Tryz.prog 18 #[.slice A xs.length c] w fun e w' => ∃ v, e = .returned v ∧ kInt.R 2 w' w.heap.size (fun _ => True) v xs ∧ Below w.heap.size w w' := by
  have HR := sA hr; clear hr
  go_enter Tryz.func18, Tryz.ntmps18
  go_wp2_with (refine Kd.flat_make kInt rfl 7 rfl rfl 30 _ _ rfl xs.length rfl rfl 2 Tryz.underlying30 0 8 (by kernel_rfl) (by decide) (by decide) (by omega) (Below.refl _ _) ?_; intro v1 w1 hr1 hb1 _)
  have HR1 := sA hr1; have HB1 := sA hb1; clear hr1 hb1
  go_loopg [4] (xs.length + 1) (fun q v4 wr => ∃ k ys, q = xs.length + 1 - k ∧ k ≤ xs.length ∧ v4 = .int .i64 k ∧ Aside0 (Filled xs k ys) ∧ Aside0 (kInt.R 2 wr w.heap.size (fun _ => True) v1 ys) ∧ Aside0 (Below w.heap.size w wr))
  case atStart => exact ⟨0, _, by omega, by omega, rfl, ⟨Filled.zero xs 0⟩, HR1, HB1⟩
  case round =>
    obtain ⟨k, ys, rfl, hk, rfl, HF, HO, HB⟩ := hrel
    clear HR1 HB1
    by_cases hlt : k < xs.length
    · have hf := HF.out.step hlt 0
      obtain ⟨ad, e0, h0, h1⟩ := Kd.flat_cells (d := kInt) rfl (Kd.C_below HR.out HB.out) 0 k hlt
      cases e0
      generalize xs.getD k 0 = x at hf h0 h1
      have HF1 := sA hf; clear hf
      have c0 := h0 _ rfl; simp only [Nat.mul_one] at c0
      clear h0 h1
      obtain ⟨g, cap, rfl, hg, _, _⟩ := Kd.R_form HO.out (by rw [HF.out.1]; omega)
      have hky : k < ys.length := by rw [HF.out.1]; exact hlt
      go_wp2_with (first | ((with_reducible refine gate_store (t := 2) (p := 20) rfl ?_); refine Kd.flat_store kInt rfl rfl rfl 2 _ _ rfl k x rfl (Nat.mul_one k).symm rfl (by kernel_rfl) HO.out hky HB.out ?_; intro w3 hr3 hb3 _; have HO1 := sA hr3; have HB1 := sA hb3; clear hr3 hb3))
      go_roundg (xs.length + 1 - (k + 1))
      case measure => omega
      case rel => exact ⟨k + 1, _, rfl, hlt, by go_num, HF1, HO1, HB1⟩
    · go_wp2
      go_ret
      exact ⟨_, rfl, by rw [← HF.out.done (by omega)]; exact HO.out, HB.out⟩
set_option maxHeartbeats 1000000 in
theorem eqInt64S (A A' : Option Addr) (c c' : Nat) (xs : List Int) (hr : kInt.C w A xs.length xs) (hr' : kInt.C w A' xs.length xs) (hm : xs.length ≤ 1048576) : Calls Tryz.prog 20 #[.slice A xs.length c, .slice A' xs.length c'] w fun e w' => e = .returned (.bool true) ∧ Below w.heap.size w w' := by
  have HR := sA hr; have HR' := sA hr'; clear hr hr'
  go_enter Tryz.func20, Tryz.ntmps20
  go_wp2_with fail
  go_loopg [5] (xs.length + 1) (fun q v wr => ∃ k, q = xs.length + 1 - k ∧ k ≤ xs.length ∧ v = .int .i64 k ∧ Aside0 (Below w.heap.size w wr))
  case atStart => exact ⟨0, by omega, by omega, rfl, ⟨Below.refl _ _⟩⟩
  case round =>
    obtain ⟨k, rfl, hk, rfl, HB⟩ := hrel
    by_cases hlt : k < xs.length
    · obtain ⟨ad, e0, h0, h1⟩ := Kd.flat_cells (d := kInt) rfl (Kd.C_below HR.out HB.out) 0 k hlt
      obtain ⟨ad', e0', g0, g1⟩ := Kd.flat_cells (d := kInt) rfl (Kd.C_below HR'.out HB.out) 0 k hlt
      cases e0; cases e0'
      generalize xs.getD k 0 = x at h0 h1 g0 g1
      have c0 := h0 _ rfl; have d0 := g0 _ rfl
      simp only [Nat.mul_one] at c0 d0
      clear h0 h1 g0 g1
      have p0 : (x == x) = true := by simp
      go_wp2_with fail
      go_quiet (fail)
      go_wp2
      go_roundg (xs.length + 1 - (k + 1))
      case measure => omega
      case rel => exact ⟨k + 1, rfl, hlt, by go_num, ⟨pw_below_drewN HB.out _⟩⟩
    · go_wp2
      go_ret
      exact ⟨rfl, HB.out⟩
end
end Go.Proofs.YtlhpbpkefkabgaaGreat.L1
namespace Go.Proofs.YtlhpbpkefkabgaaGreat.L1
open Go.RowKit Go.Proofs.YtlhpbpkefkabgaaGreatW.PrintWords Go.Proofs.YtlhpbpkefkabgaaGreat.B
set_option linter.unusedVariables false
set_option linter.unusedSimpArgs false
section
variable (w : World)
end
structure St where (pos rule node time dist load : Int) (s0 s1 s2 : List Int)
def ReadState (w : World) (v : Value) (x : St) : Prop := ∃ A0 c0 A1 c1 A2 c2, v = .agg #[.int .i64 x.pos, .int .i64 x.rule, .int .i64 x.node, .int .i64 x.time, .int .i64 x.dist, .int .i64 x.load, .slice A0 x.s0.length c0, .slice A1 x.s1.length c1, .slice A2 x.s2.length c2] ∧
  kInt.C w A0 x.s0.length x.s0 ∧ kInt.C w A1 x.s1.length x.s1 ∧ kInt.C w A2 x.s2.length x.s2
def OwnState (w : World) (base : Nat) (v : Value) (x : St) : Prop := ∃ v0 v1 v2 s1 s2, v = .agg #[.int .i64 x.pos, .int .i64 x.rule, .int .i64 x.node, .int .i64 x.time, .int .i64 x.dist, .int .i64 x.load, v0, v1, v2] ∧ kInt.R 2 w base (fun b => b < s1) v0 x.s0 ∧ kInt.R 2 w base (fun b => s1 ≤ b ∧ b < s2) v1 x.s1 ∧ kInt.R 2 w base (fun b => s2 ≤ b) v2 x.s2
theorem ReadState.below {w w1 : World} {v : Value} {x : St} (h : ReadState w v x) (hb : Below w.heap.size w w1) : ReadState w1 v x := by
  obtain ⟨A0, c0, A1, c1, A2, c2, rfl, h0, h1, h2⟩ := h
  exact ⟨A0, c0, A1, c1, A2, c2, rfl, Kd.C_below h0 hb, Kd.C_below h1 hb, Kd.C_below h2 hb⟩
theorem OwnState.read {w : World} {base : Nat} {v : Value} {x : St} (h : OwnState w base v x) : ReadState w v x := by
  obtain ⟨v0, v1, v2, s1, s2, rfl, h0, h1, h2⟩ := h
  obtain ⟨A0, c0, rfl, _, r0⟩ := Kd.R_reads h0
  obtain ⟨A1, c1, rfl, _, r1⟩ := Kd.R_reads h1
  obtain ⟨A2, c2, rfl, _, r2⟩ := Kd.R_reads h2
  exact ⟨A0, c0, A1, c1, A2, c2, rfl, r0, r1, r2⟩
theorem OwnState.below {w w1 : World} {base : Nat} {v : Value} {x : St} (h : OwnState w base v x) (hb : Below w.heap.size w w1) : OwnState w1 base v x := by
  obtain ⟨v0, v1, v2, s1, s2, rfl, h0, h1, h2⟩ := h
  exact ⟨v0, v1, v2, s1, s2, rfl, Kd.R_below h0 hb, Kd.R_below h1 hb, Kd.R_below h2 hb⟩
def St.small (x : St) : Prop := x.s0.length ≤ 1048576 ∧ x.s1.length ≤ 1048576 ∧ x.s2.length ≤ 1048576
section
variable (w : World)
end
section
variable (w : World)
end
end Go.Proofs.YtlhpbpkefkabgaaGreat.L1
namespace Go.Proofs.YtlhpbpkefkabgaaGreat.L1
open Go.RowKit Go.Proofs.YtlhpbpkefkabgaaGreatW.PrintWords Go.Proofs.YtlhpbpkefkabgaaGreat.B
set_option linter.unusedVariables false
set_option linter.unusedSimpArgs false
structure Ins where (op a b c : Int)
def Ins.enc (v : Ins) : List Value := [.int .i64 v.op, .int .i64 v.a, .int .i64 v.b, .int .i64 v.c]
def kIns : Kd Ins := Kd.flat 4 Ins.enc (fun _ => rfl) (by intro x u hu; simp [Ins.enc] at hu; rcases hu with rfl | rfl | rfl | rfl <;> rfl)
def zIns : Ins := ⟨0, 0, 0, 0⟩
section
variable (w : World)
set_option maxHeartbeats 1000000 in
theorem toIns (v : Ins) : Calls Tryz.prog 61 #[.agg #[.int .i64 v.op, .int .i64 v.a, .int .i64 v.b, .int .i64 v.c]] w fun e w' => e = .returned (.agg #[.int .i64 v.op, .int .i64 v.a, .int .i64 v.b, .int .i64 v.c]) ∧ Below w.heap.size w w' := by
  go_enter Tryz.func61, Tryz.ntmps61
  go_wp2
  refine bodyPost_ret (v := .agg #[.int .i64 v.op, .int .i64 v.a, .int .i64 v.b, .int .i64 v.c]) (by simp [results, Tryz.results61, go_sem]) rfl ⟨rfl, ?_⟩
  exact by with_reducible repeat (first | refine bel_set ?_ (by omega) _ | refine bA ?_ _ | refine below_drew ?_ | exact Below.refl _ _)
set_option maxRecDepth 100000 in
theorem toInsS (A : Option Addr) (c : Nat) (xs : List Ins) (hr : kIns.C w A xs.length xs) (hm : xs.length ≤ 1048576) : Calls Tryz.prog 30 #[.slice A xs.length c] w fun e w' => ∃ v, e = .returned v ∧ kIns.R 99 w' w.heap.size (fun _ => True) v xs ∧ Below w.heap.size w w' := by
  have HR := sA hr; clear hr
  go_enter Tryz.func30, Tryz.ntmps30
  go_wp2_with (refine Kd.flat_make kIns rfl 7 rfl rfl 39 _ _ rfl xs.length rfl rfl 99 Tryz.underlying39 zIns 32 (by kernel_rfl) (by decide) (by decide) (by omega) (Below.refl _ _) ?_; intro v1 w1 hr1 hb1 _)
  have HR1 := sA hr1; have HB1 := sA hb1; clear hr1 hb1
  go_loopg [4] (xs.length + 1) (fun q v4 wr => ∃ k ys, q = xs.length + 1 - k ∧ k ≤ xs.length ∧ v4 = .int .i64 k ∧ Aside0 (Filled xs k ys) ∧ Aside0 (kIns.R 99 wr w.heap.size (fun _ => True) v1 ys) ∧ Aside0 (Below w.heap.size w wr))
  case atStart => exact ⟨0, _, by omega, by omega, rfl, ⟨Filled.zero xs zIns⟩, HR1, HB1⟩
  case round =>
    obtain ⟨k, ys, rfl, hk, rfl, HF, HO, HB⟩ := hrel
    clear HR1 HB1
    by_cases hlt : k < xs.length
    · have hf := HF.out.step hlt zIns
      obtain ⟨ad, e0, h0, h1⟩ := Kd.flat_cells (d := kIns) rfl (Kd.C_below HR.out HB.out) zIns k hlt
      cases e0
      generalize xs.getD k zIns = x at hf h0 h1
      have HF1 := sA hf; clear hf
      have c0 := h0 _ rfl; have c1 := h1 0 _ rfl; have c2 := h1 1 _ rfl; have c3 := h1 2 _ rfl
      clear h0 h1
      obtain ⟨g, cap, rfl, hg, _, _⟩ := Kd.R_form HO.out (by rw [HF.out.1]; omega)
      have hky : k < ys.length := by rw [HF.out.1]; exact hlt
      go_wp2_with (first | (go_at_call 61; refine (toIns _ x).mono ?_; rintro e w2 ⟨rfl, hb⟩) | ((with_reducible refine gate_store (t := 99) (p := 21) rfl ?_); refine Kd.flat_store kIns rfl rfl rfl 99 _ _ rfl k x rfl rfl rfl (by kernel_rfl) (Kd.R_below HO.out hb) hky (bC HB.out hb) ?_; intro w3 hr3 hb3 _; have HO1 := sA hr3; have HB1 := sA hb3; clear hr3 hb3 hb))
      go_roundg (xs.length + 1 - (k + 1))
      case measure => omega
      case rel => exact ⟨k + 1, _, rfl, hlt, by go_num, HF1, HO1, HB1⟩
    · go_wp2
      go_ret
      exact ⟨_, rfl, by rw [← HF.out.done (by omega)]; exact HO.out, HB.out⟩
set_option maxHeartbeats 1000000 in
theorem eqIns (v : Ins) : Calls Tryz.prog 70 #[.agg #[.int .i64 v.op, .int .i64 v.a, .int .i64 v.b, .int .i64 v.c], .agg #[.int .i64 v.op, .int .i64 v.a, .int .i64 v.b, .int .i64 v.c]] w fun e w' => e = .returned (.bool true) ∧ Below w.heap.size w w' := by
  go_enter Tryz.func70, Tryz.ntmps70
  go_wp2
  go_ret
  exact ⟨rfl, by with_reducible repeat (first | refine bel_set ?_ (by omega) _ | refine bA ?_ _ | refine below_drew ?_ | exact Below.refl _ _)⟩
set_option maxRecDepth 100000 in
theorem eqInsS (A A' : Option Addr) (c c' : Nat) (xs : List Ins) (hr : kIns.C w A xs.length xs) (hr' : kIns.C w A' xs.length xs) (hm : xs.length ≤ 1048576) : Calls Tryz.prog 36 #[.slice A xs.length c, .slice A' xs.length c'] w fun e w' => e = .returned (.bool true) ∧ Below w.heap.size w w' := by
  have HR := sA hr; have HR' := sA hr'; clear hr hr'
  go_enter Tryz.func36, Tryz.ntmps36
  go_wp2_with fail
  go_loopg [5] (xs.length + 1) (fun q v wr => ∃ k, q = xs.length + 1 - k ∧ k ≤ xs.length ∧ v = .int .i64 k ∧ Aside0 (Below w.heap.size w wr))
  case atStart => exact ⟨0, by omega, by omega, rfl, ⟨Below.refl _ _⟩⟩
  case round =>
    obtain ⟨k, rfl, hk, rfl, HB⟩ := hrel
    by_cases hlt : k < xs.length
    · obtain ⟨ad, e0, h0, h1⟩ := Kd.flat_cells (d := kIns) rfl (Kd.C_below HR.out HB.out) zIns k hlt
      obtain ⟨ad', e0', g0, g1⟩ := Kd.flat_cells (d := kIns) rfl (Kd.C_below HR'.out HB.out) zIns k hlt
      cases e0; cases e0'
      generalize xs.getD k zIns = x at h0 h1 g0 g1
      have c0 := h0 _ rfl; have c1 := h1 0 _ rfl; have c2 := h1 1 _ rfl; have c3 := h1 2 _ rfl
      have d0 := g0 _ rfl; have d1 := g1 0 _ rfl; have d2 := g1 1 _ rfl; have d3 := g1 2 _ rfl
      clear h0 h1 g0 g1
      go_wp2_with fail
      go_still_tail 8, (by kernel_rfl)
      go_wp2_with (go_at_call 70; refine (eqIns _ x).mono ?_; rintro e w2 ⟨rfl, hb⟩; have HB1 := sA (bC (below_drew HB.out) hb); clear hb)
      go_roundg (xs.length + 1 - (k + 1))
      case measure => omega
      case rel => exact ⟨k + 1, rfl, hlt, by go_num, HB1⟩
    · go_wp2
      go_ret
      exact ⟨rfl, HB.out⟩
theorem szInsS (A : Option Addr) (n c : Nat) (left : Int) (h0 : 0 ≤ left) (h1 : left ≤ 1048576) (hn : n ≤ 9223372036854775807) : Calls Tryz.prog 21 #[.slice A n c, .int .i64 left] w fun e w' => e = .returned (.int .i64 (if left < n then -1 else left - n)) ∧ w = w' := by
  go_enter Tryz.func21, Tryz.ntmps21
  go_wp2
  all_goals (go_ret; exact ⟨by first | rfl | (rw [if_pos (by omega)]; rfl) | (rw [if_neg (by omega)]; rfl), rfl⟩)
end
structure Code where (regs slots : Int) (b0 b1 b2 : List Ins)
def ReadCode (w : World) (v : Value) (x : Code) : Prop := ∃ A0 c0 A1 c1 A2 c2, v = .agg #[.int .i64 x.regs, .int .i64 x.slots, .slice A0 x.b0.length c0, .slice A1 x.b1.length c1, .slice A2 x.b2.length c2] ∧
  kIns.C w A0 x.b0.length x.b0 ∧ kIns.C w A1 x.b1.length x.b1 ∧ kIns.C w A2 x.b2.length x.b2
def OwnCode (w : World) (base : Nat) (v : Value) (x : Code) : Prop := ∃ v0 v1 v2 s1 s2, v = .agg #[.int .i64 x.regs, .int .i64 x.slots, v0, v1, v2] ∧ s1 ≤ s2 ∧ kIns.R 99 w base (fun b => b < s1) v0 x.b0 ∧ kIns.R 99 w base (fun b => s1 ≤ b ∧ b < s2) v1 x.b1 ∧ kIns.R 99 w base (fun b => s2 ≤ b) v2 x.b2
theorem ReadCode.below {w w1 : World} {v : Value} {x : Code} (h : ReadCode w v x) (hb : Below w.heap.size w w1) : ReadCode w1 v x := by
  obtain ⟨A0, c0, A1, c1, A2, c2, rfl, h0, h1, h2⟩ := h
  exact ⟨A0, c0, A1, c1, A2, c2, rfl, Kd.C_below h0 hb, Kd.C_below h1 hb, Kd.C_below h2 hb⟩
theorem OwnCode.read {w : World} {base : Nat} {v : Value} {x : Code} (h : OwnCode w base v x) : ReadCode w v x := by
  obtain ⟨v0, v1, v2, s1, s2, rfl, hss, h0, h1, h2⟩ := h
  obtain ⟨A0, c0, rfl, _, r0⟩ := Kd.R_reads h0
  obtain ⟨A1, c1, rfl, _, r1⟩ := Kd.R_reads h1
  obtain ⟨A2, c2, rfl, _, r2⟩ := Kd.R_reads h2
  exact ⟨A0, c0, A1, c1, A2, c2, rfl, r0, r1, r2⟩
theorem OwnCode.below {w w1 : World} {base : Nat} {v : Value} {x : Code} (h : OwnCode w base v x) (hb : Below w.heap.size w w1) : OwnCode w1 base v x := by
  obtain ⟨v0, v1, v2, s1, s2, rfl, hss, h0, h1, h2⟩ := h
  exact ⟨v0, v1, v2, s1, s2, rfl, hss, Kd.R_below h0 hb, Kd.R_below h1 hb, Kd.R_below h2 hb⟩
def Code.small (x : Code) : Prop := x.b0.length ≤ 1048576 ∧ x.b1.length ≤ 1048576 ∧ x.b2.length ≤ 1048576
section
variable (w : World)
set_option maxRecDepth 100000 in
set_option maxHeartbeats 1000000 in
theorem eqCode (v v' : Value) (x : Code) (hr : ReadCode w v x) (hr' : ReadCode w v' x) (hs : x.small) : Calls Tryz.prog 14 #[v, v'] w fun e w' => e = .returned (.bool true) ∧ Below w.heap.size w w' := by
  obtain ⟨A0, c0, A1, c1, A2, c2, rfl, r0, r1, r2⟩ := hr
  obtain ⟨B0, d0, B1, d1, B2, d2, rfl, s0, s1, s2⟩ := hr'
  obtain ⟨n0, n1, n2⟩ := hs
  have HR := sA (And.intro r0 (And.intro r1 (And.intro r2 (And.intro s0 (And.intro s1 s2))))); clear r0 r1 r2 s0 s1 s2
  go_enter Tryz.func14, Tryz.ntmps14
  go_wp2_with fail
  have HB := sA (bA (bA (Below.refl w.heap.size w) (.cells #[.int .i64 x.regs, .int .i64 x.slots, .slice A0 x.b0.length c0, .slice A1 x.b1.length c1, .slice A2 x.b2.length c2] 41)) (.cells #[.int .i64 x.regs, .int .i64 x.slots, .slice B0 x.b0.length d0, .slice B1 x.b1.length d1, .slice B2 x.b2.length d2] 41))
  refine (eqInsS _ A0 B0 c0 d0 x.b0 (Kd.C_below HR.out.1 HB.out) (Kd.C_below HR.out.2.2.2.1 HB.out) n0).mono ?_
  rintro e w0 ⟨rfl, hb⟩
  have A := bB ((al_old (by simp only [al_size]; omega)).trans (al_new w _)) hb
  have B := bB (al_new _ _) hb
  simp only [al_size] at B
  obtain ⟨a1, a2⟩ := lay0 A; obtain ⟨b1, b2⟩ := lay0 B
  have HA := sA A; have HB' := sA B; have HB0 := sA (bC HB.out hb); clear hb HB A B
  go_wp2_with fail
  clear a1 a2 b1 b2
  refine (eqInsS _ A1 B1 c1 d1 x.b1 (Kd.C_below HR.out.2.1 HB0.out) (Kd.C_below HR.out.2.2.2.2.1 HB0.out) n1).mono ?_
  rintro e w1 ⟨rfl, hb⟩
  obtain ⟨a1, a2⟩ := lay hb HA.out; obtain ⟨b1, b2⟩ := lay hb HB'.out
  have HB1 := sA (bC HB0.out hb); clear hb HB0
  go_wp2_with fail
  clear a1 a2 b1 b2
  refine (eqInsS _ A2 B2 c2 d2 x.b2 (Kd.C_below HR.out.2.2.1 HB1.out) (Kd.C_below HR.out.2.2.2.2.2 HB1.out) n2).mono ?_
  rintro e w2 ⟨rfl, hb⟩
  have HB2 := sA (bC HB1.out hb); clear hb HB1
  go_wp2
  go_ret
  exact ⟨rfl, HB2.out⟩

theorem szCode (v : Value) (x : Code) (left : Int) (h0 : 0 ≤ left) (h1 : left ≤ 1048576) (hr : ReadCode w v x) : Calls Tryz.prog 5 #[v, .int .i64 left] w fun e w' => (∃ r : Int, e = .returned (.int .i64 r) ∧ (r = -1 ∨ (0 ≤ r ∧ r ≤ left ∧ x.small))) ∧ Below w.heap.size w w' := by
  obtain ⟨A0, c0, A1, c1, A2, c2, rfl, r0, r1, r2⟩ := hr
  have m0 := r0.2.1; have m1 := r1.2.1; have m2 := r2.2.1
  clear r0 r1 r2
  generalize hn0 : x.b0.length = n0 at m0; generalize hn1 : x.b1.length = n1 at m1; generalize hn2 : x.b2.length = n2 at m2
  have H0 := Lib.hid hn0; have H1 := Lib.hid hn1; have H2 := Lib.hid hn2; clear hn0 hn1 hn2
  go_enter Tryz.func5, Tryz.ntmps5
  by_cases l0 : left < n0
  · go_wp2_with fail
    go_at_call 21; refine (szInsS _ A0 n0 c0 left (by omega) (by omega) m0).mono ?_; rw [if_pos (by omega)]; rintro e w1 ⟨rfl, rfl⟩
    go_wp2
    go_ret
    exact ⟨⟨-1, rfl, .inl rfl⟩, bA (Below.refl _ _) _⟩
  by_cases l1 : left - n0 < n1
  · go_wp2_with fail
    go_at_call 21; refine (szInsS _ A0 n0 c0 left (by omega) (by omega) m0).mono ?_; rw [if_neg (by omega)]; rintro e w1 ⟨rfl, rfl⟩
    go_wp2_with fail
    go_at_call 21; refine (szInsS _ A1 n1 c1 (left - n0) (by omega) (by omega) m1).mono ?_; rw [if_pos (by omega)]; rintro e w1 ⟨rfl, rfl⟩
    go_wp2
    go_ret
    exact ⟨⟨-1, rfl, .inl rfl⟩, bA (Below.refl _ _) _⟩
  by_cases l2 : left - n0 - n1 < n2
  · go_wp2_with fail
    go_at_call 21; refine (szInsS _ A0 n0 c0 left (by omega) (by omega) m0).mono ?_; rw [if_neg (by omega)]; rintro e w1 ⟨rfl, rfl⟩
    go_wp2_with fail
    go_at_call 21; refine (szInsS _ A1 n1 c1 (left - n0) (by omega) (by omega) m1).mono ?_; rw [if_neg (by omega)]; rintro e w1 ⟨rfl, rfl⟩
    go_wp2_with fail
    go_at_call 21; refine (szInsS _ A2 n2 c2 (left - n0 - n1) (by omega) (by omega) m2).mono ?_; rw [if_pos (by omega)]; rintro e w1 ⟨rfl, rfl⟩
    go_wp2
    go_ret
    exact ⟨⟨-1, rfl, .inl rfl⟩, bA (Below.refl _ _) _⟩
  · go_wp2_with fail
    go_at_call 21; refine (szInsS _ A0 n0 c0 left (by omega) (by omega) m0).mono ?_; rw [if_neg (by omega)]; rintro e w1 ⟨rfl, rfl⟩
    go_wp2_with fail
    go_at_call 21; refine (szInsS _ A1 n1 c1 (left - n0) (by omega) (by omega) m1).mono ?_; rw [if_neg (by omega)]; rintro e w1 ⟨rfl, rfl⟩
    go_wp2_with fail
    go_at_call 21; refine (szInsS _ A2 n2 c2 (left - n0 - n1) (by omega) (by omega) m2).mono ?_; rw [if_neg (by omega)]; rintro e w1 ⟨rfl, rfl⟩
    go_wp2
    go_ret
    refine ⟨⟨left - n0 - n1 - n2, rfl, .inr ⟨by omega, by omega, ?_⟩⟩, bA (Below.refl _ _) _⟩
    unfold Code.small; rw [H0.out, H1.out, H2.out]; omega
end
section
variable (w : World)
set_option maxRecDepth 100000 in
set_option maxHeartbeats 1000000 in
theorem toCode (v : Value) (x : Code) (hr : ReadCode w v x) (hs : x.small) : Calls Tryz.prog 9 #[v] w fun e w' => ∃ u, e = .returned u ∧ OwnCode w' w.heap.size u x ∧ Below w.heap.size w w' := by
  obtain ⟨A0, c0, A1, c1, A2, c2, rfl, r0, r1, r2⟩ := hr
  obtain ⟨n0, n1, n2⟩ := hs
  have R0 := sA r0; have R1 := sA r1; have R2 := sA r2; clear r0 r1 r2
  go_enter Tryz.func9, Tryz.ntmps9
  go_wp2_with fail
  have HB := sA (bA (bA (bA (Below.refl w.heap.size w) (.cells #[.int .i64 x.regs, .int .i64 x.slots, .slice A0 x.b0.length c0, .slice A1 x.b1.length c1, .slice A2 x.b2.length c2] 24)) (.cells #[.int .i64 0, .int .i64 0, .slice none 0 0, .slice none 0 0, .slice none 0 0] 41)) (.cells #[.int .i64 x.regs, .int .i64 x.slots, .slice none 0 0, .slice none 0 0, .slice none 0 0] 41))
  refine (toInsS _ A0 c0 x.b0 (Kd.C_below R0.out HB.out) n0).mono ?_
  rintro e w0 ⟨v0, rfl, hr0, hb0⟩
  have A := bB ((al_old (by simp only [al_size]; omega)).trans ((al_old (by simp only [al_size]; omega)).trans (al_new w _))) hb0
  have B := bB ((al_old (by simp only [al_size]; omega)).trans (al_new _ _)) hb0
  have D := bB (al_new _ _) hb0
  have hz0 := hb0.size
  have hr0' := Kd.fresh (base := w.heap.size) hr0 (by simp only [al_size]; omega)
  simp only [al_size] at B D hz0 hr0'
  obtain ⟨a1, a2⟩ := lay0 A
  obtain ⟨d1, d2⟩ := lay0 D
  have HB0 := sA (bel_set (b := w.heap.size + 1 + 1) (o := 2) (bC HB.out hb0) (by omega))
  obtain ⟨B0, d0, rfl, _, _⟩ := Kd.R_reads hr0'
  have HR0 := sA (Kd.R_far (p := ⟨w.heap.size + 1 + 1, 2, none⟩) hr0' (fun k hk => by have := hk.1; simp only; omega) (.slice B0 x.b0.length d0))
  have HA := sA (blk_far (p := ⟨w.heap.size + 1 + 1, 2, none⟩) A (by simp only; omega) (.slice B0 x.b0.length d0)); have HC := sA (blk_far (p := ⟨w.heap.size + 1 + 1, 2, none⟩) B (by simp only; omega) (.slice B0 x.b0.length d0)); have HD := sA (blk_set D 2 (.slice B0 x.b0.length d0)); clear hb0 hr0 hr0' A B D HB
  go_wp2_with fail
  clear a1 a2 d1 d2
  refine (toInsS _ A1 c1 x.b1 (Kd.C_below R1.out (HB0.out _)) n1).mono ?_
  rintro e w1 ⟨v1, rfl, hr1, hb1⟩
  have A := bB HA.out hb1; have B := bB HC.out hb1; have D := bB HD.out hb1
  have hz1 := hb1.size
  have hr1' := Kd.fresh (base := w.heap.size) hr1 (by simp; omega)
  have hr0' := Kd.R_below HR0.out hb1
  simp only [World.size_setCell, List.setIfInBounds_toArray, List.set_cons_zero, List.set_cons_succ] at D hz1 hr1'
  obtain ⟨a1, a2⟩ := lay0 A
  obtain ⟨d1, d2⟩ := lay0 D
  have HB1 := sA (bel_set (b := w.heap.size + 1 + 1) (o := 3) (bC (HB0.out _) hb1) (by omega))
  obtain ⟨B1, d1', rfl, _, _⟩ := Kd.R_reads hr1'
  have HS0 := sA (Kd.R_far (p := ⟨w.heap.size + 1 + 1, 3, none⟩) hr0' (fun k hk => by have := hk.1; simp only; omega) (.slice B1 x.b1.length d1'))
  have HS1 := sA (Kd.R_far (p := ⟨w.heap.size + 1 + 1, 3, none⟩) hr1' (fun k hk => by have := hk.1; simp only; omega) (.slice B1 x.b1.length d1'))
  have HA1 := sA (blk_far (p := ⟨w.heap.size + 1 + 1, 3, none⟩) A (by simp only; omega) (.slice B1 x.b1.length d1')); have HC1 := sA (blk_far (p := ⟨w.heap.size + 1 + 1, 3, none⟩) B (by simp only; omega) (.slice B1 x.b1.length d1')); have HD1 := sA (blk_set D 3 (.slice B1 x.b1.length d1')); clear hb1 hr1 hr1' hr0' A B D HB0 HA HC HD HR0
  go_wp2_with fail
  clear a1 a2 d1 d2
  refine (toInsS _ A2 c2 x.b2 (Kd.C_below R2.out (HB1.out _)) n2).mono ?_
  rintro e w2 ⟨v2, rfl, hr2, hb2⟩
  have B := bB HC1.out hb2; have D := bB HD1.out hb2
  have hz2 := hb2.size
  have hr2' := Kd.fresh (base := w.heap.size) hr2 (by simp; omega)
  simp only [World.size_setCell, List.setIfInBounds_toArray, List.set_cons_zero, List.set_cons_succ] at D hz2 hr2'
  obtain ⟨b1, b2⟩ := lay0 B
  obtain ⟨d1, d2⟩ := lay0 D
  obtain ⟨B2, d2', rfl, _, _⟩ := Kd.R_reads hr2'
  have HB2 := sA (bC (HB1.out _) hb2)
  have HT0 := sA (Kd.R_below HS0.out hb2); have HT1 := sA (Kd.R_below HS1.out hb2); have HT2 := sA hr2'
  clear hb2 hr2 hr2' B D HA1 HC1 HD1 HB1 HS0 HS1
  go_wp2
  refine bodyPost_ret (v := .agg #[.int .i64 x.regs, .int .i64 x.slots, .slice B0 x.b0.length d0, .slice B1 x.b1.length d1', .slice B2 x.b2.length d2']) (by simp [results, Tryz.results9, go_sem, b1, b2, d1, d2]) rfl ⟨_, rfl, ⟨_, _, _, w0.heap.size, w1.heap.size, rfl, by omega, ?_, ?_, ?_⟩, ?_⟩
  · refine Kd.R_mono (ok := fun k => w.heap.size + 1 + 1 + 1 ≤ k ∧ k < w0.heap.size) ?_ (fun k hk => hk.2)
    with_reducible repeat (first | exact HT0.out | refine Kd.R_far ?_ (fun k hk => by have := hk.1; simp only; omega) _)
  · refine Kd.R_mono (ok := fun k => w0.heap.size ≤ k ∧ k < w1.heap.size) ?_ (fun k hk => hk)
    with_reducible repeat (first | exact HT1.out | refine Kd.R_far ?_ (fun k hk => by have := hk.1; simp only; omega) _)
  · refine Kd.R_mono (ok := fun k => w1.heap.size ≤ k ∧ k < w2.heap.size) ?_ (fun k hk => hk.1)
    with_reducible repeat (first | exact HT2.out | refine Kd.R_far ?_ (fun k hk => by have := hk.1; simp only; omega) _)
  · with_reducible repeat (first | exact HB2.out | refine bel_set ?_ (by omega) _)
end
end Go.Proofs.YtlhpbpkefkabgaaGreat.L1
namespace Go.Proofs.YtlhpbpkefkabgaaGreat.L1
open Go.RowKit Go.Proofs.YtlhpbpkefkabgaaGreatW.PrintWords Go.Proofs.YtlhpbpkefkabgaaGreat.B
set_option linter.unusedVariables false
set_option linter.unusedSimpArgs false
attribute [local go_sem] mk_cell mk_frozen
def insOk (o a b c regs slots k n : Int) : Bool :=
  if 5 ≤ o ∧ o ≤ 12 then inB a 13 (regs - 1) && inB b 0 (regs - 1) && inB c 0 (regs - 1)
  else if c ≠ 0 then false
  else if o = 1 then inB a 13 (regs - 1) && inB b (-1000000000) 1000000000
  else if o = 2 ∨ o = 3 ∨ o = 4 then inB a 13 (regs - 1) && inB b 0 (regs - 1)
  else if o = 13 ∨ o = 14 then inB a 13 (regs - 1) && inB b 0 15
  else if o = 15 ∨ o = 16 then inB a 0 (regs - 1) && inB b (k + 1) n
  else if o = 17 then decide (a = 0) && inB b (k + 1) n
  else if o = 18 then inB a 0 (regs - 1) && inB b 1 100
  else if o = 19 then inB a 0 (slots - 1) && inB b 0 (regs - 1)
  else if o = 20 then inB a 13 (regs - 1) && inB b 0 (slots - 1)
  else false
def Ins.ok (x : Ins) (regs slots k n : Int) : Bool := insOk x.op x.a x.b x.c regs slots k n
section
variable (w : World)
set_option maxRecDepth 100000 in
set_option maxHeartbeats 4000000 in
theorem spec_goodIns (o a b c regs slots : Int) (B0 B1 B2 : Value) (k n : Int) (hr : 13 ≤ regs ∧ regs ≤ 1000) (hs : 0 ≤ slots ∧ slots ≤ 100) (hk : 0 ≤ k ∧ k ≤ 20000) : Calls Tryz.prog 109 #[.agg #[.int .i64 regs, .int .i64 slots, B0, B1, B2], .agg #[.int .i64 o, .int .i64 a, .int .i64 b, .int .i64 c], .int .i64 k, .int .i64 n] w fun e w' => e = .returned (.bool (insOk o a b c regs slots k n)) ∧ Below w.heap.size w w' := by
  have q0 : IntKind.i64.wrap (regs - 1) = regs - 1 := IntWalk.i64_in _ (by omega)
  have q1 : IntKind.i64.wrap (slots - 1) = slots - 1 := IntWalk.i64_in _ (by omega)
  have q2 : IntKind.i64.wrap (k + 1) = k + 1 := IntWalk.i64_in _ (by omega)
  by_cases h1 : 5 ≤ o ∧ o ≤ 12
  · have p0 : decide (5 ≤ o) = true := by simp; omega
    have p1 : decide (o ≤ 12) = true := by simp; omega
    have HL := sA (show insOk o a b c regs slots k n = (inB a 13 (regs - 1) && inB b 0 (regs - 1) && inB c 0 (regs - 1)) by unfold insOk; rw [if_pos h1])
    clear h1
    go_enter Tryz.func109, Tryz.ntmps109
    go_wp2_with (go_at_call 47; refine (spec_l1In _ _ _ _).mono ?_; rintro e w' ⟨rfl, rfl⟩)
    all_goals (go_ret; exact ⟨by rw [HL.out]; simp [*], bA (bA (Below.refl _ _) _) _⟩)
  by_cases hc : c = 0
  · subst hc
    by_cases e1 : o = 1
    · subst e1
      have HL := sA (show insOk 1 a b 0 regs slots k n = (inB a 13 (regs - 1) && inB b (-1000000000) 1000000000) from rfl)
      clear h1
      go_enter Tryz.func109, Tryz.ntmps109
      go_wp2_with (go_at_call 47; refine (spec_l1In _ _ _ _).mono ?_; rintro e w' ⟨rfl, rfl⟩)
      all_goals (go_ret; exact ⟨by rw [HL.out]; simp [*], bA (bA (Below.refl _ _) _) _⟩)
    by_cases e2 : o = 2
    · subst e2
      have HL := sA (show insOk 2 a b 0 regs slots k n = (inB a 13 (regs - 1) && inB b 0 (regs - 1)) from rfl)
      clear h1 e1
      go_enter Tryz.func109, Tryz.ntmps109
      go_wp2_with (go_at_call 47; refine (spec_l1In _ _ _ _).mono ?_; rintro e w' ⟨rfl, rfl⟩)
      all_goals (go_ret; exact ⟨by rw [HL.out]; simp [*], bA (bA (Below.refl _ _) _) _⟩)
    by_cases e3 : o = 3
    · subst e3
      have HL := sA (show insOk 3 a b 0 regs slots k n = (inB a 13 (regs - 1) && inB b 0 (regs - 1)) from rfl)
      clear h1 e1 e2
      go_enter Tryz.func109, Tryz.ntmps109
      go_wp2_with (go_at_call 47; refine (spec_l1In _ _ _ _).mono ?_; rintro e w' ⟨rfl, rfl⟩)
      all_goals (go_ret; exact ⟨by rw [HL.out]; simp [*], bA (bA (Below.refl _ _) _) _⟩)
    by_cases e4 : o = 4
    · subst e4
      have HL := sA (show insOk 4 a b 0 regs slots k n = (inB a 13 (regs - 1) && inB b 0 (regs - 1)) from rfl)
      clear h1 e1 e2 e3
      go_enter Tryz.func109, Tryz.ntmps109
      go_wp2_with (go_at_call 47; refine (spec_l1In _ _ _ _).mono ?_; rintro e w' ⟨rfl, rfl⟩)
      all_goals (go_ret; exact ⟨by rw [HL.out]; simp [*], bA (bA (Below.refl _ _) _) _⟩)
    by_cases e13 : o = 13
    · subst e13
      have HL := sA (show insOk 13 a b 0 regs slots k n = (inB a 13 (regs - 1) && inB b 0 15) from rfl)
      clear h1 e1 e2 e3 e4
      go_enter Tryz.func109, Tryz.ntmps109
      go_wp2_with (go_at_call 47; refine (spec_l1In _ _ _ _).mono ?_; rintro e w' ⟨rfl, rfl⟩)
      all_goals (go_ret; exact ⟨by rw [HL.out]; simp [*], bA (bA (Below.refl _ _) _) _⟩)
    by_cases e14 : o = 14
    · subst e14
      have HL := sA (show insOk 14 a b 0 regs slots k n = (inB a 13 (regs - 1) && inB b 0 15) from rfl)
      clear h1 e1 e2 e3 e4 e13
      go_enter Tryz.func109, Tryz.ntmps109
      go_wp2_with (go_at_call 47; refine (spec_l1In _ _ _ _).mono ?_; rintro e w' ⟨rfl, rfl⟩)
      all_goals (go_ret; exact ⟨by rw [HL.out]; simp [*], bA (bA (Below.refl _ _) _) _⟩)
    by_cases e15 : o = 15
    · subst e15
      have HL := sA (show insOk 15 a b 0 regs slots k n = (inB a 0 (regs - 1) && inB b (k + 1) n) from rfl)
      clear h1 e1 e2 e3 e4 e13 e14
      go_enter Tryz.func109, Tryz.ntmps109
      go_wp2_with (go_at_call 47; refine (spec_l1In _ _ _ _).mono ?_; rintro e w' ⟨rfl, rfl⟩)
      all_goals (go_ret; exact ⟨by rw [HL.out]; simp [*], bA (bA (Below.refl _ _) _) _⟩)
    by_cases e16 : o = 16
    · subst e16
      have HL := sA (show insOk 16 a b 0 regs slots k n = (inB a 0 (regs - 1) && inB b (k + 1) n) from rfl)
      clear h1 e1 e2 e3 e4 e13 e14 e15
      go_enter Tryz.func109, Tryz.ntmps109
      go_wp2_with (go_at_call 47; refine (spec_l1In _ _ _ _).mono ?_; rintro e w' ⟨rfl, rfl⟩)
      all_goals (go_ret; exact ⟨by rw [HL.out]; simp [*], bA (bA (Below.refl _ _) _) _⟩)
    by_cases e17 : o = 17
    · subst e17
      have HL := sA (show insOk 17 a b 0 regs slots k n = (decide (a = 0) && inB b (k + 1) n) from rfl)
      clear h1 e1 e2 e3 e4 e13 e14 e15 e16
      go_enter Tryz.func109, Tryz.ntmps109
      go_wp2_with (go_at_call 47; refine (spec_l1In _ _ _ _).mono ?_; rintro e w' ⟨rfl, rfl⟩)
      all_goals (go_ret; exact ⟨by rw [HL.out]; simp [*], bA (bA (Below.refl _ _) _) _⟩)
    by_cases e18 : o = 18
    · subst e18
      have HL := sA (show insOk 18 a b 0 regs slots k n = (inB a 0 (regs - 1) && inB b 1 100) from rfl)
      clear h1 e1 e2 e3 e4 e13 e14 e15 e16 e17
      go_enter Tryz.func109, Tryz.ntmps109
      go_wp2_with (go_at_call 47; refine (spec_l1In _ _ _ _).mono ?_; rintro e w' ⟨rfl, rfl⟩)
      all_goals (go_ret; exact ⟨by rw [HL.out]; simp [*], bA (bA (Below.refl _ _) _) _⟩)
    by_cases e19 : o = 19
    · subst e19
      have HL := sA (show insOk 19 a b 0 regs slots k n = (inB a 0 (slots - 1) && inB b 0 (regs - 1)) from rfl)
      clear h1 e1 e2 e3 e4 e13 e14 e15 e16 e17 e18
      go_enter Tryz.func109, Tryz.ntmps109
      go_wp2_with (go_at_call 47; refine (spec_l1In _ _ _ _).mono ?_; rintro e w' ⟨rfl, rfl⟩)
      all_goals (go_ret; exact ⟨by rw [HL.out]; simp [*], bA (bA (Below.refl _ _) _) _⟩)
    by_cases e20 : o = 20
    · subst e20
      have HL := sA (show insOk 20 a b 0 regs slots k n = (inB a 13 (regs - 1) && inB b 0 (slots - 1)) from rfl)
      clear h1 e1 e2 e3 e4 e13 e14 e15 e16 e17 e18 e19
      go_enter Tryz.func109, Tryz.ntmps109
      go_wp2_with (go_at_call 47; refine (spec_l1In _ _ _ _).mono ?_; rintro e w' ⟨rfl, rfl⟩)
      all_goals (go_ret; exact ⟨by rw [HL.out]; simp [*], bA (bA (Below.refl _ _) _) _⟩)
    have HL := sA (show insOk o a b 0 regs slots k n = false by unfold insOk; rw [if_neg h1, if_neg (by simp)]; simp [e1, e2, e3, e4, e13, e14, e15, e16, e17, e18, e19, e20])
    have f1 : (o == 1) = false := by simp [e1]
    have g1 : decide (o = 1) = false := by simp [e1]
    have f2 : (o == 2) = false := by simp [e2]
    have g2 : decide (o = 2) = false := by simp [e2]
    have f3 : (o == 3) = false := by simp [e3]
    have g3 : decide (o = 3) = false := by simp [e3]
    have f4 : (o == 4) = false := by simp [e4]
    have g4 : decide (o = 4) = false := by simp [e4]
    have f13 : (o == 13) = false := by simp [e13]
    have g13 : decide (o = 13) = false := by simp [e13]
    have f14 : (o == 14) = false := by simp [e14]
    have g14 : decide (o = 14) = false := by simp [e14]
    have f15 : (o == 15) = false := by simp [e15]
    have g15 : decide (o = 15) = false := by simp [e15]
    have f16 : (o == 16) = false := by simp [e16]
    have g16 : decide (o = 16) = false := by simp [e16]
    have f17 : (o == 17) = false := by simp [e17]
    have g17 : decide (o = 17) = false := by simp [e17]
    have f18 : (o == 18) = false := by simp [e18]
    have g18 : decide (o = 18) = false := by simp [e18]
    have f19 : (o == 19) = false := by simp [e19]
    have g19 : decide (o = 19) = false := by simp [e19]
    have f20 : (o == 20) = false := by simp [e20]
    have g20 : decide (o = 20) = false := by simp [e20]
    rcases Int.lt_or_le o 5 with h5 | h5
    · have p0 : decide (5 ≤ o) = false := by simp; omega
      clear h1 h5 e1 e2 e3 e4 e13 e14 e15 e16 e17 e18 e19 e20
      go_enter Tryz.func109, Tryz.ntmps109
      go_wp2_with (go_at_call 47; refine (spec_l1In _ _ _ _).mono ?_; rintro e w' ⟨rfl, rfl⟩)
      all_goals (go_ret; exact ⟨by rw [HL.out]; simp [*], bA (bA (Below.refl _ _) _) _⟩)
    · have p0 : decide (5 ≤ o) = true := by simp; omega
      have p1 : decide (o ≤ 12) = false := by simp; omega
      clear h1 h5 e1 e2 e3 e4 e13 e14 e15 e16 e17 e18 e19 e20
      go_enter Tryz.func109, Tryz.ntmps109
      go_wp2_with (go_at_call 47; refine (spec_l1In _ _ _ _).mono ?_; rintro e w' ⟨rfl, rfl⟩)
      all_goals (go_ret; exact ⟨by rw [HL.out]; simp [*], bA (bA (Below.refl _ _) _) _⟩)
  · have f0 : (c == 0) = false := by simp [hc]
    have g0 : decide (c = 0) = false := by simp [hc]
    have HL := sA (show insOk o a b c regs slots k n = false by unfold insOk; rw [if_neg h1, if_pos hc])
    rcases Int.lt_or_le o 5 with h5 | h5
    · have p0 : decide (5 ≤ o) = false := by simp; omega
      clear h1 h5 hc
      go_enter Tryz.func109, Tryz.ntmps109
      go_wp2_with (go_at_call 47; refine (spec_l1In _ _ _ _).mono ?_; rintro e w' ⟨rfl, rfl⟩)
      all_goals (go_ret; exact ⟨by rw [HL.out]; simp [*], bA (bA (Below.refl _ _) _) _⟩)
    · have p0 : decide (5 ≤ o) = true := by simp; omega
      have p1 : decide (o ≤ 12) = false := by simp; omega
      clear h1 h5 hc
      go_enter Tryz.func109, Tryz.ntmps109
      go_wp2_with (go_at_call 47; refine (spec_l1In _ _ _ _).mono ?_; rintro e w' ⟨rfl, rfl⟩)
      all_goals (go_ret; exact ⟨by rw [HL.out]; simp [*], bA (bA (Below.refl _ _) _) _⟩)
end
end Go.Proofs.YtlhpbpkefkabgaaGreat.L1
