/- What the reference sees of a node: its request, pick or drop, its size. Registers laid over, rows of zeros. The attributes behind a step and at the start, as the reference tells them. -/
import Derived.Test.YtlhpbpkefkabgaaGreatQS16
namespace Go.Proofs.YtlhpbpkefkabgaaGreat.L1
open Go.RowKit Go.Proofs.YtlhpbpkefkabgaaGreatW.PrintWords Go.Proofs.YtlhpbpkefkabgaaGreat.B
set_option linter.unusedVariables false
set_option linter.unusedSimpArgs false
attribute [local go_sem] mk_cell mk_frozen
def Inst.reqI (x : Inst) (n : Int) : Int := (n - x.vs.length).tdiv 2
def Inst.pick (x : Inst) (n : Int) : Bool := x.stop n && (n - x.vs.length).tmod 2 == 0
def Inst.dropB (x : Inst) (n : Int) : Bool := x.stop n && (n - x.vs.length).tmod 2 == 1
def Inst.sizeAt (x : Inst) (n : Int) : Int := if x.stop n then (x.qs.getD (x.reqI n).toNat zQ).size else 0
theorem Inst.stop_bd {x : Inst} {n : Int} (h : x.stop n = true) : ∃ q : Nat, ∃ d : Nat, q < x.qs.length ∧ d < 2 ∧ n = x.vs.length + (2 * q + d : Nat) ∧ x.reqI n = q ∧ (n - x.vs.length).tmod 2 = d := by
  unfold Inst.stop Inst.nodes at h
  rw [inB_iff] at h
  obtain ⟨m, hm⟩ := Int.eq_ofNat_of_zero_le (show 0 ≤ n - x.vs.length by omega)
  refine ⟨m / 2, m % 2, by omega, by omega, by omega, ?_, ?_⟩
  · unfold Inst.reqI; rw [hm]; exact (Int.ofNat_tdiv m 2).symm
  · rw [hm]; exact (Int.ofNat_tmod m 2).symm
section
variable (w : World)
set_option maxRecDepth 100000 in
set_option maxHeartbeats 2000000 in
theorem spec_req (u : Value) (x : Inst) (hr : ReadInst w u x) (hs : x.small) (n : Int) (hn : -1000000 ≤ n ∧ n ≤ 100000000) : Calls Tryz.prog 93 #[u, .int .i64 n] w fun e w' => e = .returned (.int .i64 (x.reqI n)) ∧ Below w.heap.size w w' := by
  obtain ⟨A0, c0, A1, c1, A2, c2, rfl, r0, r1, r2⟩ := hr
  clear r0 r1 r2
  obtain ⟨n0, n1, n2⟩ := hs
  have q0 : IntKind.i64.wrap (n - x.vs.length) = n - x.vs.length := IntWalk.i64_in _ (by omega)
  have h2 : ((n - x.vs.length).tdiv 2).natAbs ≤ (n - x.vs.length).natAbs := by rw [Int.natAbs_tdiv]; exact Nat.div_le_self _ _
  have HQ := sA (show wrap64 ((n - x.vs.length).tdiv 2) = x.reqI n from IntWalk.wrap64_in _ (by omega))
  clear h2
  go_enter Tryz.func93, Tryz.ntmps93
  go_wp2
  go_ret
  exact ⟨rfl, bA (Below.refl _ _) _⟩
set_option maxRecDepth 100000 in
set_option maxHeartbeats 2000000 in
theorem spec_pick (u : Value) (x : Inst) (hr : ReadInst w u x) (hs : x.small) (n : Int) : Calls Tryz.prog 56 #[u, .int .i64 n] w fun e w' => e = .returned (.bool (x.pick n)) ∧ Below w.heap.size w w' := by
  have HR := sA hr; have HS := sA hs
  obtain ⟨A0, c0, A1, c1, A2, c2, rfl, r0, r1, r2⟩ := hr
  clear r0 r1 r2
  obtain ⟨n0, n1, n2⟩ := hs
  have HB := sA (bA (Below.refl w.heap.size w) (.cells #[.slice A0 x.vs.length c0, .slice A1 x.qs.length c1, .slice A2 x.rs.length c2] 47)); have HA := sA (al_new w (.cells #[.slice A0 x.vs.length c0, .slice A1 x.qs.length c1, .slice A2 x.rs.length c2] 47))
  go_enter Tryz.func56, Tryz.ntmps56
  go_wp2_with fail
  go_at_call 49
  refine (spec_stop _ _ x (HR.out.below HB.out) HS.out n).mono ?_
  rintro e w1 ⟨rfl, hb⟩
  have HB1 := sA (bC HB.out hb); have HA1 := sA (bB HA.out hb); clear hb
  obtain ⟨b1, b2⟩ := lay0 HA1.out
  cases hq : inB n x.vs.length (x.nodes - 1) with
  | false =>
    have HL := sA (show x.pick n = false by unfold Inst.pick Inst.stop; rw [hq]; rfl); clear hq
    go_wp2
    go_ret
    exact ⟨by rw [HL.out]; rfl, HB1.out⟩
  | true =>
    have HL := sA (show x.pick n = ((n - x.vs.length).tmod 2 == 0) by unfold Inst.pick Inst.stop; rw [hq]; rfl)
    have hn := (inB_iff _ _ _).1 hq
    unfold Inst.nodes at hn
    have q0 : IntKind.i64.wrap (n - x.vs.length) = n - x.vs.length := IntWalk.i64_in _ (by omega)
    clear hq hn
    go_wp2
    go_ret
    exact ⟨by rw [HL.out]; rfl, HB1.out⟩
set_option maxRecDepth 100000 in
set_option maxHeartbeats 2000000 in
theorem spec_drop (u : Value) (x : Inst) (hr : ReadInst w u x) (hs : x.small) (n : Int) : Calls Tryz.prog 57 #[u, .int .i64 n] w fun e w' => e = .returned (.bool (x.dropB n)) ∧ Below w.heap.size w w' := by
  have HR := sA hr; have HS := sA hs
  obtain ⟨A0, c0, A1, c1, A2, c2, rfl, r0, r1, r2⟩ := hr
  clear r0 r1 r2
  obtain ⟨n0, n1, n2⟩ := hs
  have HB := sA (bA (Below.refl w.heap.size w) (.cells #[.slice A0 x.vs.length c0, .slice A1 x.qs.length c1, .slice A2 x.rs.length c2] 47)); have HA := sA (al_new w (.cells #[.slice A0 x.vs.length c0, .slice A1 x.qs.length c1, .slice A2 x.rs.length c2] 47))
  go_enter Tryz.func57, Tryz.ntmps57
  go_wp2_with fail
  go_at_call 49
  refine (spec_stop _ _ x (HR.out.below HB.out) HS.out n).mono ?_
  rintro e w1 ⟨rfl, hb⟩
  have HB1 := sA (bC HB.out hb); have HA1 := sA (bB HA.out hb); clear hb
  obtain ⟨b1, b2⟩ := lay0 HA1.out
  cases hq : inB n x.vs.length (x.nodes - 1) with
  | false =>
    have HL := sA (show x.dropB n = false by unfold Inst.dropB Inst.stop; rw [hq]; rfl); clear hq
    go_wp2
    go_ret
    exact ⟨by rw [HL.out]; rfl, HB1.out⟩
  | true =>
    have HL := sA (show x.dropB n = ((n - x.vs.length).tmod 2 == 1) by unfold Inst.dropB Inst.stop; rw [hq]; rfl)
    have hn := (inB_iff _ _ _).1 hq
    unfold Inst.nodes at hn
    have q0 : IntKind.i64.wrap (n - x.vs.length) = n - x.vs.length := IntWalk.i64_in _ (by omega)
    clear hq hn
    go_wp2
    go_ret
    exact ⟨by rw [HL.out]; rfl, HB1.out⟩
set_option maxRecDepth 100000 in
set_option maxHeartbeats 2000000 in
theorem spec_size (u : Value) (x : Inst) (hr : ReadInst w u x) (hs : x.small) (n : Int) : Calls Tryz.prog 58 #[u, .int .i64 n] w fun e w' => e = .returned (.int .i64 (x.sizeAt n)) ∧ Below w.heap.size w w' := by
  have HR := sA hr; have HS := sA hs
  obtain ⟨A0, c0, A1, c1, A2, c2, rfl, r0, r1, r2⟩ := hr
  clear r0 r2
  obtain ⟨n0, n1, n2⟩ := hs
  have HB := sA (bA (Below.refl w.heap.size w) (.cells #[.slice A0 x.vs.length c0, .slice A1 x.qs.length c1, .slice A2 x.rs.length c2] 47)); have HA := sA (al_new w (.cells #[.slice A0 x.vs.length c0, .slice A1 x.qs.length c1, .slice A2 x.rs.length c2] 47))
  have HR1 := sA r1; clear r1
  go_enter Tryz.func58, Tryz.ntmps58
  go_wp2_with fail
  go_at_call 49
  refine (spec_stop _ _ x (HR.out.below HB.out) HS.out n).mono ?_
  rintro e w1 ⟨rfl, hb⟩
  have HB1 := sA (bC HB.out hb); have HA1 := sA (bB HA.out hb); clear hb
  obtain ⟨b1, b2⟩ := lay0 HA1.out
  cases hq : inB n x.vs.length (x.nodes - 1) with
  | false =>
    have HL := sA (show x.sizeAt n = 0 by unfold Inst.sizeAt Inst.stop; rw [hq]; rfl); clear hq
    go_wp2
    go_ret
    exact ⟨by rw [HL.out]; rfl, HB1.out⟩
  | true =>
    have hst : x.stop n = true := hq
    have hn := (inB_iff _ _ _).1 hq
    unfold Inst.nodes at hn
    have HN := sA (show -1000000 ≤ n ∧ n ≤ 100000000 by omega)
    obtain ⟨q, hq1, hq2⟩ : ∃ q : Nat, q < x.qs.length ∧ x.reqI n = q := by obtain ⟨q, d, h1, _, _, h2, _⟩ := Inst.stop_bd hst; exact ⟨q, h1, h2⟩
    have hl : x.sizeAt n = (x.qs.getD q zQ).size := by unfold Inst.sizeAt; rw [hst, hq2]; simp
    have hq3 : (q : Int) < (x.qs.length : Int) := by omega
    obtain ⟨ad, e0, t0, _⟩ := Kd.flat_cells (d := kReq) rfl (Kd.C_below HR1.out HB1.out) zQ q hq1
    cases e0
    have z0 := t0 _ rfl
    generalize x.qs.getD q zQ = y at z0 hl
    have HL := sA hl; have HI := sA hq2; clear hl hq2 hq hn hst t0 b1 b2
    have y0 := blk_cell HA1.out 0; have y1 := blk_cell HA1.out 1; have y2 := blk_cell HA1.out 2
    simp only [List.getElem?_toArray, List.getElem?_cons_zero, List.getElem?_cons_succ] at y0 y1 y2
    go_wp2_with fail
    refine Grow.wp_region_growB (by kernel_rfl) (by kernel_rfl) ?_
    repeat ((first | (refine Grow.lex_do _ (by rfl) (by intro W hj; have t0 := pC hj.out y0; have t1 := pC hj.out y1; have t2 := pC hj.out y2; have t3 := pC hj.out z0; go_simp; first | exact Grow.Upon.val hj | (have c := spec_req W _ x ((HR.out.below HB1.out).below hj.out) HS.out n HN.out; rw [HI.out] at c; with_reducible exact Grow.Upon.callB hj c)) ?_)); refine Grow.lex_norm (fun K hK => ?_); go_simp; refine hK _ ?_; clear hK K)
    refine Grow.lex_nil (fun W hj => ?_)
    have HB2 := sA (bC HB1.out hj.out); clear hj z0 y0 y1 y2
    go_wp2
    go_ret
    exact ⟨by rw [HL.out]; rfl, HB2.out⟩
end
end Go.Proofs.YtlhpbpkefkabgaaGreat.L1
namespace Go.Proofs.YtlhpbpkefkabgaaGreat.L1
open Go.RowKit Go.Proofs.YtlhpbpkefkabgaaGreatW.PrintWords Go.Proofs.YtlhpbpkefkabgaaGreatW.PrintLast Go.Proofs.YtlhpbpkefkabgaaGreat.B
set_option linter.unusedVariables false
set_option linter.unusedSimpArgs false
attribute [local go_sem] mk_cell mk_frozen
section
variable (w : World)
set_option maxRecDepth 100000 in
set_option maxHeartbeats 2000000 in
theorem spec_over (A B : Option Addr) (c d : Nat) (xs ys : List Int) (hx : kInt.C w A xs.length xs) (hy : kInt.C w B ys.length ys) (hc : xs.length ≤ c) (h13 : 13 ≤ xs.length) (hn : xs.length ≤ 2000) (hm : ys.length ≤ 2000) : Calls Tryz.prog 27 #[.slice A xs.length c, .slice B ys.length d] w fun e w' => ∃ v, e = .returned v ∧ kInt.R 2 w' w.heap.size (fun _ => True) v (ys ++ xs.drop 13) ∧ Below w.heap.size w w' := by
  have HY := sA hy
  have hd := Kd.C_drop (c := c) hx h13 hc
  have q0 : (xs.drop 13).length = xs.length - 13 := by simp
  have h13' : (13 : Int) ≤ (xs.length : Int) := by omega
  rw [q0] at hd
  have hd' : kInt.C w (if c = 13 then A else Option.map (fun x => { block := x.block, off := x.off + 13 }) A) (xs.length - 13) (xs.drop 13) := hd
  have HX := sA hd'; have HN := sA (And.intro hn hm); clear hx hy hd hd' q0
  have HL := sA (flat_lit (d := kInt) rfl w.drew w.heap.size 2 [] (below_drew (Below.refl w.heap.size w)).size (by simp))
  have HB := sA (bA (below_drew (Below.refl w.heap.size w)) (.cells #[] 2))
  go_enter Tryz.func27, Tryz.ntmps27
  go_wp2_with fail
  refine start_ (n := 7) (S := fun w' => True) (ds := [2, 5]) #[false, false, false, false, false, false, false] (by kernel_rfl) rfl rfl trivial (fun hHeld => ?_)
  refine pure_ (i := 1) (N := some 6) (v := ?_) (a' := ?_) #[false, true, false, false, false, false, false] rfl rfl (by kernel_rfl) (fun _ _ _ h => h) (Or.inl ⟨by rfl, ?_⟩) ?_ ?_
  rotate_left
  · intro w'
    go_simp
    with_reducible rfl
  rotate_left
  · simp only [Act.put, List.setIfInBounds_toArray, List.set_cons_zero, List.set_cons_succ, i64_w, i32_w]
    rfl
  refine pure_ (i := 3) (N := some 8) (v := ?_) (a' := ?_) #[false, true, false, true, false, false, false] rfl rfl (by kernel_rfl) (fun _ _ _ h => h) (Or.inl ⟨by rfl, ?_⟩) ?_ ?_
  rotate_left
  · intro w'
    go_simp
    with_reducible rfl
  rotate_left
  · simp only [Act.put, List.setIfInBounds_toArray, List.set_cons_zero, List.set_cons_succ, i64_w, i32_w]
    rfl
  refine pure_ (i := 4) (N := some 9) (v := ?_) (a' := ?_) #[false, true, false, true, true, false, false] rfl rfl (by kernel_rfl) (fun _ _ _ h => h) (Or.inl ⟨by rfl, ?_⟩) ?_ ?_
  rotate_left
  · intro w'
    go_simp
    with_reducible rfl
  rotate_left
  · simp only [Act.put, List.setIfInBounds_toArray, List.set_cons_zero, List.set_cons_succ, i64_w, i32_w]
    rfl
  refine one_ (i := 0) (N := some 5) #[true, true, false, true, true, false, false] rfl rfl (by kernel_rfl) (by decide) (fun K hK => ?_)
  refine value_ (w1 := ?_) (v := ?_) (by rfl) rfl ?_ ?_
  rotate_left 2
  · go_simp
    constructor
    · rfl
    · rfl
  refine hK.out _ _ trivial (fun hHeld => ?_)
  clear hK K
  refine norm_ (a' := ?_) ?_ ?_
  rotate_left
  · show Act.put _ (some 5) _ = _
    simp only [Act.put, List.setIfInBounds_toArray, List.set_cons_zero, List.set_cons_succ, i64_w, i32_w]
    rfl
  refine last_ (i := 2) (N := some 7) #[true, true, true, true, true, false, false] rfl rfl (by kernel_rfl) (by decide) (fun K hK => ?_)
  refine Kd.flat_append_step kInt rfl (w0 := w) w.heap.size (by rfl) rfl _ _ 30 2 0 8 rfl Tryz.underlying30 (by kernel_rfl) (by decide) (by decide) _ [] ys _ _ _ rfl rfl HL.out (Kd.C_below HY.out HB.out) HB.out HB.out.size (by have := HN.out; simp; omega) ?_
  intro v1 w1 hr1 hb1 _ _
  rw [List.nil_append] at hr1
  have HR1 := sA hr1; have HB1 := sA hb1; clear hr1 hb1
  refine hK.out _ _ ?_
  clear hK K
  refine norm_ (a' := ?_) ?_ ?_
  rotate_left
  · show Act.put _ (some 7) _ = _
    simp only [Act.put, List.setIfInBounds_toArray, List.set_cons_zero, List.set_cons_succ, i64_w, i32_w]
    rfl
  refine last_ (i := 5) (N := some 10) #[true, true, true, true, true, true, false] rfl rfl (by kernel_rfl) (by decide) (fun K hK => ?_)
  refine Kd.flat_append_step kInt rfl (w0 := w) w.heap.size (by rfl) rfl _ _ 30 2 0 8 rfl Tryz.underlying30 (by kernel_rfl) (by decide) (by decide) _ ys (xs.drop 13) _ _ _ rfl rfl HR1.out (Kd.C_below HX.out HB1.out) HB1.out HB1.out.size (by have := HN.out; simp; omega) ?_
  intro v2 w2 hr2 hb2 _ _
  have HR2 := sA hr2; have HB2 := sA hb2; clear hr2 hb2
  refine hK.out _ _ ?_
  clear hK K
  refine norm_ (a' := ?_) ?_ ?_
  rotate_left
  · show Act.put _ (some 10) _ = _
    simp only [Act.put, List.setIfInBounds_toArray, List.set_cons_zero, List.set_cons_succ, i64_w, i32_w]
    rfl
  refine pure_ (i := 6) (N := some 4) (v := ?_) (a' := ?_) #[true, true, true, true, true, true, true] rfl rfl (by kernel_rfl) (fun _ _ _ h => h) (Or.inl ⟨by rfl, ?_⟩) ?_ ?_
  rotate_left
  · intro w'
    go_simp
    with_reducible rfl
  rotate_left
  · simp only [Act.put, List.setIfInBounds_toArray, List.set_cons_zero, List.set_cons_succ, i64_w, i32_w]
    rfl
  refine done_ (by kernel_rfl) ?_
  go_wp2
  all_goals (go_ret; exact ⟨_, rfl, HR2.out, HB2.out⟩)
set_option maxRecDepth 100000 in
set_option maxHeartbeats 2000000 in
theorem spec_zeros (n : Nat) (hn : n ≤ 2000000) : Calls Tryz.prog 111 #[.int .i64 n] w fun e w' => ∃ v, e = .returned v ∧ kInt.R 2 w' w.heap.size (fun _ => True) v (List.replicate n 0) ∧ Below w.heap.size w w' := by
  have HL := sA (flat_lit (d := kInt) rfl w w.heap.size 2 [] (Nat.le_refl _) (by simp))
  have HB := sA (bA (Below.refl w.heap.size w) (.cells #[] 2))
  go_enter Tryz.func111, Tryz.ntmps111
  go_wp2_with fail
  go_loopg [3, 4] (n + 1) (fun q v3 v4 wr => ∃ k A c, q = n + 1 - k ∧ k ≤ n ∧ v3 = .slice A k c ∧ v4 = .int .i64 k ∧ Aside0 (kInt.R 2 wr w.heap.size (fun _ => True) (.slice A k c) (List.replicate k 0)) ∧ Aside0 (Below w.heap.size w wr))
  case atStart => exact ⟨0, _, _, by omega, by omega, rfl, rfl, ⟨HL.out⟩, HB⟩
  case round =>
    obtain ⟨k, A, c, rfl, hk, rfl, rfl, HO, HBk⟩ := hrel
    by_cases hlt : k < n
    · have HL1 := sA (flat_lit (d := kInt) rfl wr wr.heap.size 2 [0] (Nat.le_refl _) (by simp))
      have q0 : IntKind.i64.wrap ((k : Int) + 1) = ((k + 1 : Nat) : Int) := by rw [IntWalk.i64_in _ (by omega)]; omega
      go_wp2_with (refine Kd.flat_append_row kInt rfl (w0 := w) w.heap.size rfl _ _ 30 2 0 8 rfl Tryz.underlying30 (by kernel_rfl) (by decide) (by decide) _ (List.replicate k 0) [0] _ _ _ rfl rfl (Kd.R_alloc HO.out _) (Kd.R_reads' HL1.out).2.2 (bA HBk.out _) (bA HBk.out _).size (by simp; omega) ?_; intro v1 w1 hr1 hb1 _ _; rw [show List.replicate k (0 : Int) ++ [0] = List.replicate (k + 1) 0 from List.replicate_succ'.symm] at hr1; obtain ⟨A1, c1, hv1, _, _⟩ := Kd.R_reads hr1; rw [List.length_replicate] at hv1; subst hv1; have HR1 := sA hr1; have HB1 := sA hb1; clear hr1 hb1)
      go_roundg (n + 1 - (k + 1))
      case measure => omega
      case rel => exact ⟨k + 1, _, _, rfl, hlt, rfl, by go_num, HR1, HB1⟩
    · have e : k = n := by omega
      have HO' := sA (show kInt.R 2 wr w.heap.size (fun _ => True) (.slice A k c) (List.replicate n 0) by rw [← e]; exact HO.out)
      go_wp2
      go_ret
      exact ⟨_, rfl, HO'.out, HBk.out⟩
end
end Go.Proofs.YtlhpbpkefkabgaaGreat.L1
namespace Go.Proofs.YtlhpbpkefkabgaaGreat.L1
open Go.RowKit Go.Proofs.YtlhpbpkefkabgaaGreatW.PrintWords Go.Proofs.YtlhpbpkefkabgaaGreat.B
set_option linter.unusedVariables false
set_option linter.unusedSimpArgs false
attribute [local go_sem] mk_cell mk_frozen
def nextArr (x : Inst) (s : St) (n : Int) : Int := satAdd (satAdd s.time (x.placeAt s.node).h) (x.leg s.node n)
def nextA (x : Inst) (v : Int) (s : St) (n : Int) : List Int :=
  [maxI (x.placeAt n).o (nextArr x s n), x.leg s.node n, satAdd (maxI (x.placeAt n).o (nextArr x s n)) (-nextArr x s n), satAdd s.dist (x.leg s.node n), satAdd s.load ((bitI (x.pick n) - bitI (x.dropB n)) * x.sizeAt n), x.sizeAt n,
    (x.placeAt n).o, (x.placeAt n).c, (x.placeAt n).h, (x.vs.getD v.toNat zV).room, s.pos + 1, bitI (x.pick n), bitI (x.dropB n)]
theorem Inst.few_near {x : Inst} (h : x.valid = true) : x.vs.length ≤ 64 ∧ x.qs.length ≤ 1000 ∧ x.rs.length ≤ 4000 ∧ x.near := by
  obtain ⟨a, b, c⟩ := Inst.few_of h
  exact ⟨a, b, c, Inst.near_of h⟩
theorem Inst.req_good {x : Inst} (h : x.valid = true) {q : Nat} (hq : q < x.qs.length) : (x.qs.getD q zQ).good = true := by
  unfold Inst.valid at h
  simp only [Bool.and_eq_true] at h
  exact allI_iff.1 h.1.2 q hq
theorem Inst.veh_good {x : Inst} (h : x.valid = true) {q : Nat} (hq : q < x.vs.length) : (x.vs.getD q zV).good = true := by
  unfold Inst.valid at h
  simp only [Bool.and_eq_true] at h
  exact allI_iff.1 h.1.1.2 q hq
theorem Inst.size_bd {x : Inst} (h : x.valid = true) (n : Int) : 0 ≤ x.sizeAt n ∧ x.sizeAt n ≤ 10000 := by
  unfold Inst.sizeAt
  split
  · rename_i hs
    obtain ⟨q, d, hq, _, _, hr, _⟩ := Inst.stop_bd hs
    have hg := Inst.req_good h hq
    rw [hr]
    unfold Req.good at hg
    simp only [Bool.and_eq_true, inB_iff] at hg
    simpa using hg.1.1.1
  · omega
theorem bit_mul (a b : Bool) {z : Int} (h0 : 0 ≤ z) (h1 : z ≤ 10000) : -10000 ≤ (bitI a - bitI b) * z ∧ (bitI a - bitI b) * z ≤ 10000 := by
  cases a <;> cases b <;> simp [bitI] <;> omega
section
variable (w : World)
set_option maxRecDepth 100000 in
set_option maxHeartbeats 4000000 in
theorem spec_next (u t : Value) (x : Inst) (hx : ReadInst w u x) (kv : Nat) (s : St) (hs : ReadState w t s) (n : Int) (hval : x.valid = true) (hv : kv < x.vs.length) (hn0 : 0 ≤ s.node) (hn1 : s.node < x.nodes) (hm0 : 0 ≤ n) (hm1 : n < x.nodes) (hp0 : -1 ≤ s.pos) (hp1 : s.pos ≤ 4096) :
    Calls Tryz.prog 28 #[u, .int .i64 kv, t, .int .i64 n] w fun e w' => ∃ v, e = .returned v ∧ kInt.R 2 w' w.heap.size (fun _ => True) v (nextA x kv s n) ∧ Below w.heap.size w w' := by
  have HX := sA hx; have HV := sA hval
  obtain ⟨f0, f1, f2, hnear⟩ := Inst.few_near hval
  have hsz := Inst.size_bd hval n
  have HF := sA (And.intro f0 (And.intro f1 (And.intro f2 hnear)))
  have HS := sA (show x.small from ⟨by omega, by omega, by omega⟩)
  have HN := sA (And.intro hn0 (And.intro hn1 (And.intro hm0 hm1)))
  have hz := bit_mul (x.pick n) (x.dropB n) hsz.1 hsz.2
  have hb1 := bitI_bd (x.pick n); have hb2 := bitI_bd (x.dropB n)
  have ha : -1000000000 ≤ nextArr x s n ∧ nextArr x s n ≤ 1000000000 := clamp_bd _
  have q0 : IntKind.i64.wrap (-nextArr x s n) = -nextArr x s n := IntWalk.i64_in _ (by omega)
  have q1 : IntKind.i64.wrap (bitI (x.pick n) - bitI (x.dropB n)) = bitI (x.pick n) - bitI (x.dropB n) := IntWalk.i64_in _ (by omega)
  have q2 : IntKind.i64.wrap ((bitI (x.pick n) - bitI (x.dropB n)) * x.sizeAt n) = (bitI (x.pick n) - bitI (x.dropB n)) * x.sizeAt n := IntWalk.i64_in _ (by omega)
  have q3 : IntKind.i64.wrap (s.pos + 1) = s.pos + 1 := IntWalk.i64_in _ (by omega)
  have hkv : (kv : Int) < (x.vs.length : Int) := by omega
  obtain ⟨B0, d0, B1, d1, B2, d2, rfl, b0, b1, b2⟩ := hx
  obtain ⟨ad, e0, t0, t1⟩ := Kd.flat_cells (d := kVeh) rfl b0 zV kv hv
  cases e0
  have ZV := sA (t0 _ rfl)
  obtain ⟨S0, g0, S1, g1, S2, g2, rfl, s0, s1, s2⟩ := hs
  clear b0 b1 b2 s0 s1 s2 t0 t1 f0 f1 f2 hnear hsz hz hb1 hb2 ha hn0 hn1 hm0 hm1 hval
  obtain ⟨HB0, HI0, HS0, HZ0⟩ := opens2 w (.cells #[.slice (some ad) x.vs.length d0, .slice B1 x.qs.length d1, .slice B2 x.rs.length d2] 47) (.cells #[.int .i64 s.pos, .int .i64 s.rule, .int .i64 s.node, .int .i64 s.time, .int .i64 s.dist, .int .i64 s.load, .slice S0 s.s0.length g0, .slice S1 s.s1.length g1, .slice S2 s.s2.length g2] 49)
  generalize hR : (x.vs.getD kv zV).room = rm at ZV
  have HRM := sA hR; clear hR
  go_enter Tryz.func28, Tryz.ntmps28
  go_wp2_with fail
  go_at_call 51
  refine (spec_leg _ _ x (HX.out.below HB0.out) HF.out.1 HF.out.2.1 HF.out.2.2.1 HF.out.2.2.2 s.node n HN.out.1 HN.out.2.1 HN.out.2.2.1 HN.out.2.2.2).mono ?_
  rintro e w1 ⟨rfl, hb⟩
  have HB1 := sA (bC HB0.out hb); have HI1 := sA (bB HI0.out hb); have HS1 := sA (bB HS0.out hb); clear hb
  obtain ⟨i1, i2⟩ := lay0 HI1.out
  obtain ⟨s1, s2⟩ := lay0 HS1.out
  go_wp2_with fail
  clear i1 i2 s1 s2
  refine Grow.wp_region_growB (by kernel_rfl) (by kernel_rfl) ?_
  repeat ((first | (refine Grow.lex_do _ (by rfl) (by intro W hj; obtain ⟨i1, i2⟩ := lay hj.out HI1.out; obtain ⟨s1, s2⟩ := lay hj.out HS1.out; go_simp; first | exact Grow.Upon.val hj | (have cc := show Calls Tryz.prog 53 #[.agg #[.slice (some ad) x.vs.length d0, .slice B1 x.qs.length d1, .slice B2 x.rs.length d2], .int .i64 s.node] W fun e w' => e = .returned (.agg #[.int .i64 (x.placeAt s.node).x, .int .i64 (x.placeAt s.node).y, .int .i64 (x.placeAt s.node).o, .int .i64 (x.placeAt s.node).c, .int .i64 (x.placeAt s.node).h]) ∧ Below W.heap.size W w' from spec_placeOf W _ x (HX.out.below (bC HB1.out hj.out)) HF.out.1 HF.out.2.1 s.node HN.out.1 HN.out.2.1; with_reducible exact Grow.Upon.callB hj cc) | (have cc := spec_SatAdd W s.time (x.placeAt s.node).h; with_reducible exact Grow.Upon.callB hj (cc.mono fun e w' h => ⟨h.1, h.2 ▸ Below.refl _ _⟩)) | (have cc := spec_SatAdd W (satAdd s.time (x.placeAt s.node).h) (x.leg s.node n); with_reducible exact Grow.Upon.callB hj (cc.mono fun e w' h => ⟨h.1, h.2 ▸ Below.refl _ _⟩))) ?_)); refine Grow.lex_norm (fun K hK => ?_); go_simp; refine hK _ ?_; clear hK K)
  refine Grow.lex_nil (fun w2 hj => ?_)
  have hb := hj.out; clear hj
  have HB2 := sA (bC HB1.out hb); have HI2 := sA (bB HI1.out hb); have HS2 := sA (bB HS1.out hb); clear hb
  have HAR := sA (show satAdd (satAdd s.time (x.placeAt s.node).h) (x.leg s.node n) = nextArr x s n from rfl)
  obtain ⟨i1, i2⟩ := lay0 HI2.out
  obtain ⟨s1, s2⟩ := lay0 HS2.out
  go_wp2_with fail
  clear i1 i2 s1 s2
  go_at_call 53
  refine (show Calls Tryz.prog 53 #[.agg #[.slice (some ad) x.vs.length d0, .slice B1 x.qs.length d1, .slice B2 x.rs.length d2], .int .i64 n] _ fun e w' => e = .returned (.agg #[.int .i64 (x.placeAt n).x, .int .i64 (x.placeAt n).y, .int .i64 (x.placeAt n).o, .int .i64 (x.placeAt n).c, .int .i64 (x.placeAt n).h]) ∧ _ from spec_placeOf _ _ x (HX.out.below HB2.out) HF.out.1 HF.out.2.1 n HN.out.2.2.1 HN.out.2.2.2).mono ?_
  rintro e w3 ⟨rfl, hb⟩
  have HB3 := sA (bC HB2.out hb); have HI3 := sA (bB HI2.out hb); have HS3 := sA (bB HS2.out hb); clear hb
  have HB4 := sA (bel_box HB3.out (.cells #[.int .i64 (x.placeAt n).x, .int .i64 (x.placeAt n).y, .int .i64 (x.placeAt n).o, .int .i64 (x.placeAt n).c, .int .i64 (x.placeAt n).h] 69)); have HI4 := sA (blk_box HI3.out (.cells #[.int .i64 (x.placeAt n).x, .int .i64 (x.placeAt n).y, .int .i64 (x.placeAt n).o, .int .i64 (x.placeAt n).c, .int .i64 (x.placeAt n).h] 69)); have HS4 := sA (blk_box HS3.out (.cells #[.int .i64 (x.placeAt n).x, .int .i64 (x.placeAt n).y, .int .i64 (x.placeAt n).o, .int .i64 (x.placeAt n).c, .int .i64 (x.placeAt n).h] 69)); have HP4 := sA (al_new w3 (.cells #[.int .i64 (x.placeAt n).x, .int .i64 (x.placeAt n).y, .int .i64 (x.placeAt n).o, .int .i64 (x.placeAt n).c, .int .i64 (x.placeAt n).h] 69))
  obtain ⟨i1, i2⟩ := lay0 HI4.out
  obtain ⟨s1, s2⟩ := lay0 HS4.out
  obtain ⟨p1, p2⟩ := lay0 HP4.out
  go_wp2_with fail
  clear i1 i2 s1 s2 p1 p2
  rw [HAR.out]
  go_at_call 54
  refine (spec_max _ (x.placeAt n).o (nextArr x s n)).mono ?_
  rintro e w' ⟨rfl, rfl⟩
  obtain ⟨i1, i2⟩ := lay0 HI4.out
  obtain ⟨s1, s2⟩ := lay0 HS4.out
  obtain ⟨p1, p2⟩ := lay0 HP4.out
  go_wp2_with fail
  clear i1 i2 s1 s2 p1 p2
  go_at_call 56
  refine (spec_pick _ _ x (HX.out.below HB4.out) HS.out n).mono ?_
  rintro e w5 ⟨rfl, hb⟩
  have HB5 := sA (bC HB4.out hb); have HI5 := sA (bB HI4.out hb); have HS5 := sA (bB HS4.out hb); have HP5 := sA (bB HP4.out hb); clear hb
  obtain ⟨i1, i2⟩ := lay0 HI5.out
  obtain ⟨s1, s2⟩ := lay0 HS5.out
  obtain ⟨p1, p2⟩ := lay0 HP5.out
  go_wp2_with fail
  clear i1 i2 s1 s2 p1 p2
  go_at_call 55
  refine (spec_bit _ (x.pick n)).mono ?_
  rintro e w' ⟨rfl, rfl⟩
  obtain ⟨i1, i2⟩ := lay0 HI5.out
  obtain ⟨s1, s2⟩ := lay0 HS5.out
  obtain ⟨p1, p2⟩ := lay0 HP5.out
  go_wp2_with fail
  clear i1 i2 s1 s2 p1 p2
  go_at_call 57
  refine (spec_drop _ _ x (HX.out.below HB5.out) HS.out n).mono ?_
  rintro e w6 ⟨rfl, hb⟩
  have HB6 := sA (bC HB5.out hb); have HI6 := sA (bB HI5.out hb); have HS6 := sA (bB HS5.out hb); have HP6 := sA (bB HP5.out hb); clear hb
  obtain ⟨i1, i2⟩ := lay0 HI6.out
  obtain ⟨s1, s2⟩ := lay0 HS6.out
  obtain ⟨p1, p2⟩ := lay0 HP6.out
  go_wp2_with fail
  clear i1 i2 s1 s2 p1 p2
  go_at_call 55
  refine (spec_bit _ (x.dropB n)).mono ?_
  rintro e w' ⟨rfl, rfl⟩
  obtain ⟨i1, i2⟩ := lay0 HI6.out
  obtain ⟨s1, s2⟩ := lay0 HS6.out
  obtain ⟨p1, p2⟩ := lay0 HP6.out
  go_wp2_with fail
  clear i1 i2 s1 s2 p1 p2
  go_at_call 58
  refine (spec_size _ _ x (HX.out.below HB6.out) HS.out n).mono ?_
  rintro e w7 ⟨rfl, hb⟩
  have HB7 := sA (bC HB6.out hb); have HI7 := sA (bB HI6.out hb); have HS7 := sA (bB HS6.out hb); have HP7 := sA (bB HP6.out hb); clear hb
  obtain ⟨i1, i2⟩ := lay0 HI7.out
  obtain ⟨s1, s2⟩ := lay0 HS7.out
  obtain ⟨p1, p2⟩ := lay0 HP7.out
  go_wp2_with fail
  clear i1 i2 s1 s2 p1 p2
  refine Grow.wp_region_tail 36 (by kernel_rfl) (by kernel_rfl) ?_
  dsimp only [List.take, List.drop]
  repeat ((first | (refine Grow.lexP_do _ (by rfl) (by rfl) (by intro W hj; obtain ⟨i1, i2⟩ := lay hj.out HI7.out; obtain ⟨s1, s2⟩ := lay hj.out HS7.out; obtain ⟨p1, p2⟩ := lay hj.out HP7.out; have cZV := pC (bC HB7.out hj.out) ZV.out; go_simp; first | exact Grow.UponB.val | (have cc := spec_SatAdd W (maxI (x.placeAt n).o (nextArr x s n)) (-nextArr x s n); with_reducible exact Grow.UponB.call (cc.mono fun e w' h => ⟨h.1, h.2 ▸ Below.refl _ _⟩)) | (have cc := spec_SatAdd W s.dist (x.leg s.node n); with_reducible exact Grow.UponB.call (cc.mono fun e w' h => ⟨h.1, h.2 ▸ Below.refl _ _⟩)) | (have cc := spec_SatAdd W s.load ((bitI (x.pick n) - bitI (x.dropB n)) * x.sizeAt n); with_reducible exact Grow.UponB.call (cc.mono fun e w' h => ⟨h.1, h.2 ▸ Below.refl _ _⟩))) ?_)); refine Grow.lexP_norm (fun K hK => ?_); go_simp; refine hK _ ?_; clear hK K)
  refine Grow.lexP_nil (fun w8 hj => ?_)
  have hb := hj.out; clear hj
  have HB8 := sA (bC HB7.out hb); have HI8 := sA (bB HI7.out hb); have HS8 := sA (bB HS7.out hb); have HP8 := sA (bB HP7.out hb); clear hb
  clear q0 q1 q2 q3
  go_wp2
  go_ret
  have HL := flat_lit (d := kInt) rfl w8 w.heap.size 2 (nextA x kv s n) HB8.out.size (by unfold nextA; simp)
  unfold nextA at HL
  rw [Int.toNat_natCast, HRM.out] at HL
  refine ⟨_, rfl, ?_, bA HB8.out _⟩
  unfold nextA
  rw [Int.toNat_natCast, HRM.out]
  exact HL
end
end Go.Proofs.YtlhpbpkefkabgaaGreat.L1
