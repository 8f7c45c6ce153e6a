/- Legs: what Travel of a valid instance answers, as the reference tells it. A region whose order is open, by an invariant over what is done already: each operation keeps it whatever else is done. -/
import Derived.Test.YtlhpbpkefkabgaaGreatQS5
import Derived.Test.YtlhpbpkefkabgaaGreatQS4
namespace Go.Proofs.YtlhpbpkefkabgaaGreat.L1
open Go.RowKit Go.Proofs.YtlhpbpkefkabgaaGreatW.PrintWords Go.Proofs.YtlhpbpkefkabgaaGreat.B
set_option linter.unusedVariables false
set_option linter.unusedSimpArgs false
attribute [local go_sem] mk_cell mk_frozen
def absI (n : Int) : Int := if n < 0 then -n else n
def Place.dist (p q : Place) : Int := absI (p.x - q.x) + absI (p.y - q.y)
/-- Does the road lead from a to b. -/
def Road.on (r : Road) (a b : Int) : Bool := decide (r.a = a) && decide (r.b = b)
def Inst.leg (x : Inst) (a b : Int) : Int := if a = b then 0 else match x.rs.find? (fun r => r.on a b) with | some r => r.t | none => (x.placeAt a).dist (x.placeAt b)
theorem find_none {x : Inst} {a b : Int} (h : ∀ j, j < x.rs.length → (x.rs.getD j zR).on a b = false) : x.rs.find? (fun r => r.on a b) = none := by
  rw [List.find?_eq_none]
  intro r hr
  obtain ⟨j, hj, rfl⟩ := List.getElem_of_mem hr
  have := h j hj
  rw [List.getD_eq_getElem?_getD, List.getElem?_eq_getElem hj] at this
  simpa using this
theorem find_first {x : Inst} {a b : Int} {k : Nat} (hk : k < x.rs.length) (h : ∀ j, j < k → (x.rs.getD j zR).on a b = false) (hh : (x.rs.getD k zR).on a b = true) : x.rs.find? (fun r => r.on a b) = some (x.rs.getD k zR) := by
  have e : ∀ j (hj : j < x.rs.length), x.rs.getD j zR = x.rs[j] := fun j hj => by rw [List.getD_eq_getElem?_getD, List.getElem?_eq_getElem hj]; rfl
  rw [List.find?_eq_some_iff_getElem]
  refine ⟨hh, k, hk, (e k hk).symm, fun j hj => ?_⟩
  rw [← e j (by omega), h j hj]
  rfl
theorem leg_same (x : Inst) (a : Int) : x.leg a a = 0 := by simp [Inst.leg]
theorem leg_first {x : Inst} {a b : Int} {k : Nat} (hne : a ≠ b) (hk : k < x.rs.length) (h : ∀ j, j < k → (x.rs.getD j zR).on a b = false) (hh : (x.rs.getD k zR).on a b = true) : x.leg a b = (x.rs.getD k zR).t := by
  unfold Inst.leg
  rw [if_neg hne, find_first hk h hh]
theorem leg_none {x : Inst} {a b : Int} (hne : a ≠ b) (h : ∀ j, j < x.rs.length → (x.rs.getD j zR).on a b = false) : x.leg a b = (x.placeAt a).dist (x.placeAt b) := by
  unfold Inst.leg
  rw [if_neg hne, find_none h]
/-- What the legs ask of an instance: it is small, its places are near. -/
def Inst.near (x : Inst) : Prop := ∀ n, -10000 ≤ (x.placeAt n).x ∧ (x.placeAt n).x ≤ 10000 ∧ -10000 ≤ (x.placeAt n).y ∧ (x.placeAt n).y ≤ 10000
section
variable (w : World)
theorem spec_abs (n : Int) (h0 : -9223372036854775807 ≤ n) (h1 : n ≤ 9223372036854775807) : Calls Tryz.prog 91 #[.int .i64 n] w fun e w' => e = .returned (.int .i64 (absI n)) ∧ w' = w := by
  rcases Int.lt_or_le n 0 with h | h
  · have hd : decide (n < 0) = true := by simp; omega
    have q0 : IntKind.i64.wrap (-n) = -n := IntWalk.i64_in _ (by omega)
    have q1 : wrap64 (-n) = -n := IntWalk.wrap64_in _ (by omega)
    have ha : absI n = -n := by unfold absI; rw [if_pos h]
    go_enter Tryz.func91, Tryz.ntmps91
    go_wp2
    go_ret
    exact ⟨by rw [ha]; rfl, rfl⟩
  · have hd : decide (n < 0) = false := by simp; omega
    have ha : absI n = n := by unfold absI; rw [if_neg (by omega)]
    go_enter Tryz.func91, Tryz.ntmps91
    go_wp2
    go_ret
    exact ⟨by rw [ha]; rfl, rfl⟩
set_option maxRecDepth 100000 in
set_option maxHeartbeats 2000000 in
theorem spec_leg (v : Value) (x : Inst) (hr : ReadInst w v x) (f0 : x.vs.length ≤ 64) (f1 : x.qs.length ≤ 1000) (f2 : x.rs.length ≤ 4000) (hn : x.near) (a b : Int) (a0 : 0 ≤ a) (a1 : a < x.nodes) (b0 : 0 ≤ b) (b1 : b < x.nodes) : Calls Tryz.prog 51 #[v, .int .i64 a, .int .i64 b] w fun e w' => e = .returned (.int .i64 (x.leg a b)) ∧ Below w.heap.size w w' := by
  obtain ⟨A0, c0, A1, c1, A2, c2, rfl, r0, r1, r2⟩ := hr
  have HR := sA (And.intro r0 (And.intro r1 r2)); clear r0 r1 r2
  have HN := sA hn; clear hn
  have HAB := sA (And.intro a0 (And.intro a1 (And.intro b0 b1))); clear a0 a1 b0 b1
  go_enter Tryz.func51, Tryz.ntmps51
  by_cases hab : a = b
  · subst hab
    go_wp2
    go_ret
    exact ⟨by rw [leg_same]; rfl, bA (Below.refl _ _) _⟩
  have hd : decide (a = b) = false := by simp [hab]
  have hdb : (a == b) = false := by simp [hab]
  go_wp2_with fail
  have HB := sA (bA (Below.refl w.heap.size w) (.cells #[.slice A0 x.vs.length c0, .slice A1 x.qs.length c1, .slice A2 x.rs.length c2] 47))
  have HA := sA (al_new w (.cells #[.slice A0 x.vs.length c0, .slice A1 x.qs.length c1, .slice A2 x.rs.length c2] 47))
  have HNE := sA hab; clear hab hd hdb
  go_loopg [7] (x.rs.length + 1) (fun q v wr => ∃ k, q = x.rs.length + 1 - k ∧ k ≤ x.rs.length ∧ v = .int .i64 k ∧ Aside0 (∀ j, j < k → (x.rs.getD j zR).on a b = false) ∧ Aside0 (wr.heap[w.heap.size]? = some (.cells #[.slice A0 x.vs.length c0, .slice A1 x.qs.length c1, .slice A2 x.rs.length c2] 47 (0, 0))) ∧ Aside0 (Below w.heap.size w wr))
  case atStart => exact ⟨0, by omega, by omega, rfl, ⟨fun j hj => by omega⟩, HA, HB⟩
  case round =>
    clear HA HB
    obtain ⟨k, rfl, hk, rfl, HG, HA, HB⟩ := hrel
    obtain ⟨b1, b2⟩ := lay0 HA.out
    by_cases hlt : k < x.rs.length
    · obtain ⟨ad, e0, h0, h1⟩ := Kd.flat_cells (d := kRoad) rfl (Kd.C_below HR.out.2.2 HB.out) zR k hlt
      cases e0
      have hf := fun h => leg_first HNE.out hlt HG.out h
      have HS := sA (show (x.rs.getD k zR).on a b = false → ∀ j, j < k + 1 → (x.rs.getD j zR).on a b = false from fun h j hj => by rcases Nat.lt_or_ge j k with h2 | h2; exact HG.out j h2; rwa [show j = k by omega])
      generalize hy : x.rs.getD k zR = y at h0 h1 hf HS
      have HF := sA hf; clear hf hy
      have d0 := h0 _ rfl; have d1 := h1 0 _ rfl; have d2 := h1 1 _ rfl
      clear h0 h1
      by_cases ha : y.a = a
      · have g0 : decide (y.a = a) = true := by simp [ha]
        have g0b : (y.a == a) = true := by simp [ha]
        by_cases hb : y.b = b
        · have g1 : decide (y.b = b) = true := by simp [hb]
          have g1b : (y.b == b) = true := by simp [hb]
          have HT := sA (HF.out (by unfold Road.on; rw [g0, g1]; rfl)); clear ha hb
          go_wp2
          go_ret
          exact ⟨by rw [HT.out]; rfl, HB.out⟩
        · have g1 : decide (y.b = b) = false := by simp [hb]
          have g1b : (y.b == b) = false := by simp [hb]
          have HT := sA (HS.out (by unfold Road.on; rw [g0, g1]; rfl)); clear ha hb
          go_wp2
          go_roundg (x.rs.length + 1 - (k + 1))
          case measure => omega
          case rel => exact ⟨k + 1, rfl, hlt, by go_num, HT, HA, HB⟩
      · have g0 : decide (y.a = a) = false := by simp [ha]
        have g0b : (y.a == a) = false := by simp [ha]
        have HT := sA (HS.out (by unfold Road.on; rw [g0]; rfl)); clear ha
        go_wp2
        go_roundg (x.rs.length + 1 - (k + 1))
        case measure => omega
        case rel => exact ⟨k + 1, rfl, hlt, by go_num, HT, HA, HB⟩
    · have hkk : k = x.rs.length := by omega
      have HL := sA (leg_none HNE.out (hkk ▸ HG.out)); clear hkk HG
      have hpq := And.intro (HN.out a) (HN.out b)
      have HLD := HL.out
      unfold Place.dist at HLD
      obtain ⟨p, hp⟩ : ∃ p, x.placeAt a = p := ⟨_, rfl⟩
      obtain ⟨q, hq⟩ : ∃ q, x.placeAt b = q := ⟨_, rfl⟩
      rw [hp, hq] at hpq HLD
      have HPQ := sA hpq; have HD := sA HLD; have HP := sA hp; have HQ := sA hq
      clear hpq HLD hp hq HL
      go_wp2_with fail
      clear b1 b2
      have c := spec_placeOf wr (.agg #[.slice A0 x.vs.length c0, .slice A1 x.qs.length c1, .slice A2 x.rs.length c2]) x (ReadInst.below ⟨_, _, _, _, _, _, rfl, HR.out⟩ HB.out) f0 f1 a HAB.out.1 HAB.out.2.1
      rw [HP.out] at c
      unfold Place.val at c
      refine c.mono ?_
      clear c
      rintro e w2 ⟨rfl, hb⟩
      have HB1 := sA (bC HB.out hb); have HA1 := sA (bB HA.out hb); clear hb HA HB
      obtain ⟨b1, b2⟩ := lay0 HA1.out
      obtain ⟨b3, b4⟩ := lay0 (blk_box HA1.out (.cells #[.int .i64 p.x, .int .i64 p.y, .int .i64 p.o, .int .i64 p.c, .int .i64 p.h] 69))
      go_wp2_with fail
      clear b1 b2 b3 b4
      have HB2 := sA (bel_box HB1.out (.cells #[.int .i64 p.x, .int .i64 p.y, .int .i64 p.o, .int .i64 p.c, .int .i64 p.h] 69)); have HA2 := sA (blk_box HA1.out (.cells #[.int .i64 p.x, .int .i64 p.y, .int .i64 p.o, .int .i64 p.c, .int .i64 p.h] 69)); have HZ2 := sA (al_new w2 (.cells #[.int .i64 p.x, .int .i64 p.y, .int .i64 p.o, .int .i64 p.c, .int .i64 p.h] 69)); clear HB1 HA1
      have c := spec_placeOf (w2.alloc (.cells #[.int .i64 p.x, .int .i64 p.y, .int .i64 p.o, .int .i64 p.c, .int .i64 p.h] 69)) (.agg #[.slice A0 x.vs.length c0, .slice A1 x.qs.length c1, .slice A2 x.rs.length c2]) x (ReadInst.below ⟨_, _, _, _, _, _, rfl, HR.out⟩ HB2.out) f0 f1 b HAB.out.2.2.1 HAB.out.2.2.2
      rw [HQ.out] at c
      unfold Place.val at c
      refine c.mono ?_
      clear c
      rintro e w3 ⟨rfl, hb⟩
      have HB3 := sA (bC HB2.out hb); have HZ3 := sA (bB HZ2.out hb); clear hb HA2 HB2 HZ2
      go_wp2_with fail
      have HB4 := sA (bel_box HB3.out (.cells #[.int .i64 q.x, .int .i64 q.y, .int .i64 q.o, .int .i64 q.c, .int .i64 q.h] 69)); have z := blk_box HZ3.out (.cells #[.int .i64 q.x, .int .i64 q.y, .int .i64 q.o, .int .i64 q.c, .int .i64 q.h] 69); have y := al_new w3 (.cells #[.int .i64 q.x, .int .i64 q.y, .int .i64 q.o, .int .i64 q.c, .int .i64 q.h] 69); clear HB3 HZ3
      have z0 := blk_cell z 0; have z1 := blk_cell z 1; have y0 := blk_cell y 0; have y1 := blk_cell y 1; clear z y
      simp only [List.getElem?_toArray, List.getElem?_cons_zero, List.getElem?_cons_succ] at z0 z1 y0 y1
      refine Grow.wp_region_growB (by kernel_rfl) (by kernel_rfl) ?_
      have k0 : IntKind.i64.wrap (p.x - q.x) = p.x - q.x := IntWalk.i64_in _ (by have := HPQ.out; omega)
      have k1 : IntKind.i64.wrap (p.y - q.y) = p.y - q.y := IntWalk.i64_in _ (by have := HPQ.out; omega)
      have k2 : IntKind.i64.wrap (absI (p.x - q.x) + absI (p.y - q.y)) = absI (p.x - q.x) + absI (p.y - q.y) := IntWalk.i64_in _ (by have := HPQ.out; unfold absI; split <;> split <;> omega)
      have K3 := sA (show (-9223372036854775807 ≤ p.x - q.x ∧ p.x - q.x ≤ 9223372036854775807) ∧ (-9223372036854775807 ≤ p.y - q.y ∧ p.y - q.y ≤ 9223372036854775807) by have := HPQ.out; omega)
      repeat ((first | (refine Grow.lex_skip (by rfl) ?_) | (refine Grow.lex_do _ (by rfl) (by intro W hj; have t0 := pC hj.out z0; have t1 := pC hj.out z1; have t2 := pC hj.out y0; have t3 := pC hj.out y1; go_simp; first | exact Grow.Upon.val hj | exact Grow.Upon.callB hj ((spec_abs W _ K3.out.1.1 K3.out.1.2).mono fun e w' h => ⟨h.1, by rw [h.2]; exact Below.refl _ _⟩) | exact Grow.Upon.callB hj ((spec_abs W _ K3.out.2.1 K3.out.2.2).mono fun e w' h => ⟨h.1, by rw [h.2]; exact Below.refl _ _⟩)) ?_)); refine Grow.lex_norm (fun K hK => ?_); go_simp; refine hK _ ?_; clear hK K)
      refine Grow.lex_nil (fun W hj => ?_)
      have HB5 := sA (bC HB4.out hj.out); clear hj z0 z1 y0 y1 k0 k1 k2
      go_wp2
      go_ret
      exact ⟨by rw [HD.out]; rfl, HB5.out⟩
end
end Go.Proofs.YtlhpbpkefkabgaaGreat.L1
set_option linter.unusedVariables false
namespace Go.Proofs.YtlhpbpkefkabgaaGreat.Grow
section
variable {P : Program} {ops : Array Oper} {md : Region.Mode}
/-- Every edge that binds leads back in the text. -/
def backB (md : Region.Mode) (ops : Array Oper) : Bool := (List.range ops.size).all fun i => match ops[i]? with | some o => o.after.all fun e => !Region.binds md e || decide (e.on < i) | none => true
theorem backB_spec (h : backB md ops = true) {i : Nat} {o : Oper} (ho : ops[i]? = some o) {e : Edge} (he : e ∈ o.after) (hb : Region.binds md e = true) : e.on < i := by
  have hi : i < ops.size := (Array.getElem?_eq_some_iff.1 ho).1
  have := List.all_eq_true.1 h i (List.mem_range.2 hi)
  rw [ho] at this
  have := Array.all_eq_true'.1 this e he
  simp only [hb, Bool.not_true, Bool.false_or, decide_eq_true_eq] at this
  exact this
theorem all_listed {l : Array Bool} (hs : l.size = ops.size) (hb : backB md ops = true) (h : Region.ready md ops l = []) : ∀ i, i < ops.size → l.getD i false = true := by
  intro i
  induction i using Nat.strongRecOn with
  | _ i ih =>
    intro hi
    cases hl : l.getD i false with
    | true => rfl
    | false =>
      have ho : ops[i]? = some ops[i] := Array.getElem?_eq_getElem hi
      have : i ∈ Region.ready md ops l := mem_ready.2 ⟨by simp [hs, hi] at hl ⊢; exact hl, ops[i], ho, fun e he hbe => ih e.on (backB_spec hb ho he hbe) (by have := backB_spec hb ho he hbe; omega)⟩
      rw [h] at this; cases this
/-- One operation keeps I. -/
def Step (P : Program) (ops : Array Oper) (md : Region.Mode) (I : (Nat → Bool) → Act → World → Prop) (Q : Exit → Act → World → Prop) (i : Nat) (o : Oper) : Prop :=
  ∀ (p : Nat → Bool) (a : Act) (w : World), (∀ e ∈ o.after, Region.binds md e = true → p e.on = true) → p i = false → I p a w → o.wp P a w (fun a' w' => I (fun j => p j || j == i) a' w') Q
def Steps (P : Program) (ops : Array Oper) (md : Region.Mode) (I : (Nat → Bool) → Act → World → Prop) (Q : Exit → Act → World → Prop) : Nat → List Oper → Prop
  | _, [] => True
  | i, o :: r => Step P ops md I Q i o ∧ Steps P ops md I Q (i + 1) r
theorem Steps.at {I : (Nat → Bool) → Act → World → Prop} {Q : Exit → Act → World → Prop} : ∀ (l : List Oper) (k : Nat), Steps P ops md I Q k l → ∀ (j : Nat) (o : Oper), l[j]? = some o → Step P ops md I Q (k + j) o
  | [], _, _, j, o, h => by simp at h
  | x :: l, k, hs, 0, o, h => by
    simp at h; subst h
    exact hs.1
  | x :: l, k, hs, j + 1, o, h => by
    have := Steps.at l (k + 1) hs.2 j o (by simpa using h)
    rwa [show k + 1 + j = k + (j + 1) by omega] at this
theorem any_inv {I : (Nat → Bool) → Act → World → Prop} {Q : Exit → Act → World → Prop} (hg : ops.toList.all (fun o => o.guard.isNone) = true) (hb : backB md ops = true) (hstep : Steps P ops md I Q 0 ops.toList)
    (hend : ∀ p a w, (∀ i, i < ops.size → p i = true) → I p a w → Q .normal a w) :
    ∀ (n : Nat) (l : Array Bool) (a : Act) (w : World), l.size = ops.size → l.toList.count false ≤ n → I (fun j => l.getD j false) a w → wpAny P md ops Q n l a w
  | 0, l, a, w, hs, hc, hI => by
    have hall : ∀ i, i < ops.size → l.getD i false = true := fun i hi => by
      cases hl : l.getD i false with
      | true => rfl
      | false =>
        have hi' : i < l.toList.length := by simp; omega
        have hmem : false ∈ l.toList := by
          have : l.toList[i] = false := by simp [hs, hi] at hl ⊢; exact hl
          exact this ▸ List.getElem_mem hi'
        have := List.count_pos_iff.2 hmem
        omega
    refine ⟨?_, hend _ _ _ hall hI⟩
    cases hr : Region.ready md ops l with
    | nil => rfl
    | cons i r =>
      have hi : i ∈ Region.ready md ops l := by rw [hr]; exact List.mem_cons_self
      obtain ⟨h0, o, ho, _⟩ := mem_ready.1 hi
      have hlt := (Array.getElem?_eq_some_iff.1 ho).1
      have := hall i hlt
      rw [getD_both h0] at this
      cases this
  | n + 1, l, a, w, hs, hc, hI => by
    refine ⟨fun h0 => hend _ _ _ (all_listed hs hb h0) hI, fun i hi => ?_⟩
    obtain ⟨h0, o, ho, hall⟩ := mem_ready.1 hi
    have hlt := (Array.getElem?_eq_some_iff.1 ho).1
    have hst := Steps.at ops.toList 0 hstep i o (by simpa using ho)
    rw [Nat.zero_add] at hst
    have hx := hst _ a w (fun e he hbe => hall e he hbe) (getD_both h0) hI
    have hw : Region.wanted o (yielded ops a.tmps) = true := by
      have h1 := List.all_eq_true.1 hg o (by obtain ⟨h2, h3⟩ := Array.getElem?_eq_some_iff.1 ho; rw [← h3]; simp)
      unfold Region.wanted
      cases hgu : o.guard with
      | none => rfl
      | some g => rw [hgu] at h1; cases h1
    unfold wpOp
    simp only [ho, hw, if_true]
    refine .inl (Oper.wp_mono (fun a' w' hI' => ?_) hx)
    refine any_inv hg hb hstep hend n _ a' w' (by simp [hs]) ?_ ?_
    · have hi' : i < l.toList.length := by simp; omega
      have e : (l.setIfInBounds i true).toList = l.toList.set i true := by simp
      have hf : l.toList[i] = false := by have := getD_both h0; simp [hs, hlt] at this ⊢; exact this
      rw [e, List.count_set hi', hf, if_pos (by rfl), if_neg (by decide)]
      have : 0 < l.toList.count false := List.count_pos_iff.2 (hf ▸ List.getElem_mem hi')
      omega
    · have e : (fun j => (l.setIfInBounds i true).getD j false) = fun j => l.getD j false || j == i := by
        funext j
        by_cases hj : i = j
        · subst hj
          simp [hs, hlt]
        · rw [getD_set_ne false hj]
          simp [Ne.symm hj]
      rw [e]
      exact hI'
theorem wp_opaque {o : Oper} {a : Act} {w : World} {I : Act → World → Prop} {Q : Exit → Act → World → Prop} (h : ∀ K : Act → World → Prop, (∀ a w, I a w → K a w) → o.wp P a w K Q) : o.wp P a w I Q := h I fun _ _ h => h
theorem wp_region_inv {id : Nat} {Q : Exit → Act → World → Prop} {a : Act} {w : World} {l : List Oper} (I : Act → World → (Nat → Bool) → Act → World → Prop) (hm : P.follows .mixedOrders = true) (hg : l.all (fun o => o.guard.isNone) = true) (hb : backB .any l.toArray = true)
    (hstart : I a w (fun _ => false) a { w with drawn := w.drawn + 1 }) (hstep : Steps P l.toArray .any (I a w) Q 0 l) (hend : ∀ a' w', (∃ p : Nat → Bool, (∀ i, i < l.length → p i = true) ∧ I a w p a' w') → Q .normal a' w') : (Code.region id l.toArray true).wp P Q a w := by
  refine wp_region_any hm (any_inv (I := I a w) (by simpa using hg) hb (by simpa using hstep) (fun p a' w' hp hi => hend a' w' ⟨p, fun i h => hp i (by simpa using h), hi⟩) _ _ _ _ (by simp) (by simp) ?_)
  have e : (fun j => (Array.replicate l.toArray.size false).getD j false) = fun _ => false := by funext j; exact getD_replicate_false _ _
  rw [e]
  exact hstart
end
end Go.Proofs.YtlhpbpkefkabgaaGreat.Grow
