/- A region whose order is open, by an invariant over what is done already: each operation keeps it whatever else is done. -/
import Derived.Test.YtmjpajaeffhdeaaG0
set_option linter.unusedVariables false
namespace Go.Proofs.Ytmjpajaeffhdeaa.Grow
section
variable {P : Program} {ops : Array Oper} {md : Region.Mode}
/-- Every edge that binds leads back in the text. -/
def backB (md : Region.Mode) (ops : Array Oper) : Bool := (List.range ops.size).all fun i => match ops[i]? with | some o => o.after.all fun e => !Region.binds md e || decide (e.on < i) | none => true
theorem backB_spec (h : backB md ops = true) {i : Nat} {o : Oper} (ho : ops[i]? = some o) {e : Edge} (he : e ∈ o.after) (hb : Region.binds md e = true) : e.on < i := by
  have hi : i < ops.size := (Array.getElem?_eq_some_iff.1 ho).1
  have := List.all_eq_true.1 h i (List.mem_range.2 hi)
  rw [ho] at this
  have := Array.all_eq_true'.1 this e he
  simp only [hb, Bool.not_true, Bool.false_or, decide_eq_true_eq] at this
  exact this
theorem all_listed {l : Array Bool} (hs : l.size = ops.size) (hb : backB md ops = true) (h : Region.ready md ops l = []) : ∀ i, i < ops.size → l.getD i false = true := by
  intro i
  induction i using Nat.strongRecOn with
  | _ i ih =>
    intro hi
    cases hl : l.getD i false with
    | true => rfl
    | false =>
      have ho : ops[i]? = some ops[i] := Array.getElem?_eq_getElem hi
      have : i ∈ Region.ready md ops l := mem_ready.2 ⟨by simp [hs, hi] at hl ⊢; exact hl, ops[i], ho, fun e he hbe => ih e.on (backB_spec hb ho he hbe) (by have := backB_spec hb ho he hbe; omega)⟩
      rw [h] at this; cases this
/-- One operation keeps I. -/
def Step (P : Program) (ops : Array Oper) (md : Region.Mode) (I : (Nat → Bool) → Act → World → Prop) (Q : Exit → Act → World → Prop) (i : Nat) (o : Oper) : Prop :=
  ∀ (p : Nat → Bool) (a : Act) (w : World), (∀ e ∈ o.after, Region.binds md e = true → p e.on = true) → p i = false → I p a w → o.wp P a w (fun a' w' => I (fun j => p j || j == i) a' w') Q
def Steps (P : Program) (ops : Array Oper) (md : Region.Mode) (I : (Nat → Bool) → Act → World → Prop) (Q : Exit → Act → World → Prop) : Nat → List Oper → Prop
  | _, [] => True
  | i, o :: r => Step P ops md I Q i o ∧ Steps P ops md I Q (i + 1) r
theorem Steps.at {I : (Nat → Bool) → Act → World → Prop} {Q : Exit → Act → World → Prop} : ∀ (l : List Oper) (k : Nat), Steps P ops md I Q k l → ∀ (j : Nat) (o : Oper), l[j]? = some o → Step P ops md I Q (k + j) o
  | [], _, _, j, o, h => by simp at h
  | x :: l, k, hs, 0, o, h => by
    simp at h; subst h
    exact hs.1
  | x :: l, k, hs, j + 1, o, h => by
    have := Steps.at l (k + 1) hs.2 j o (by simpa using h)
    rwa [show k + 1 + j = k + (j + 1) by omega] at this
theorem any_inv {I : (Nat → Bool) → Act → World → Prop} {Q : Exit → Act → World → Prop} (hg : ops.toList.all (fun o => o.guard.isNone) = true) (hb : backB md ops = true) (hstep : Steps P ops md I Q 0 ops.toList)
    (hend : ∀ p a w, (∀ i, i < ops.size → p i = true) → I p a w → Q .normal a w) :
    ∀ (n : Nat) (l : Array Bool) (a : Act) (w : World), l.size = ops.size → l.toList.count false ≤ n → I (fun j => l.getD j false) a w → wpAny P md ops Q n l a w
  | 0, l, a, w, hs, hc, hI => by
    have hall : ∀ i, i < ops.size → l.getD i false = true := fun i hi => by
      cases hl : l.getD i false with
      | true => rfl
      | false =>
        have hi' : i < l.toList.length := by simp; omega
        have hmem : false ∈ l.toList := by
          have : l.toList[i] = false := by simp [hs, hi] at hl ⊢; exact hl
          exact this ▸ List.getElem_mem hi'
        have := List.count_pos_iff.2 hmem
        omega
    refine ⟨?_, hend _ _ _ hall hI⟩
    cases hr : Region.ready md ops l with
    | nil => rfl
    | cons i r =>
      have hi : i ∈ Region.ready md ops l := by rw [hr]; exact List.mem_cons_self
      obtain ⟨h0, o, ho, _⟩ := mem_ready.1 hi
      have hlt := (Array.getElem?_eq_some_iff.1 ho).1
      have := hall i hlt
      rw [getD_both h0] at this
      cases this
  | n + 1, l, a, w, hs, hc, hI => by
    refine ⟨fun h0 => hend _ _ _ (all_listed hs hb h0) hI, fun i hi => ?_⟩
    obtain ⟨h0, o, ho, hall⟩ := mem_ready.1 hi
    have hlt := (Array.getElem?_eq_some_iff.1 ho).1
    have hst := Steps.at ops.toList 0 hstep i o (by simpa using ho)
    rw [Nat.zero_add] at hst
    have hx := hst _ a w (fun e he hbe => hall e he hbe) (getD_both h0) hI
    have hw : Region.wanted o (yielded ops a.tmps) = true := by
      have h1 := List.all_eq_true.1 hg o (by obtain ⟨h2, h3⟩ := Array.getElem?_eq_some_iff.1 ho; rw [← h3]; simp)
      unfold Region.wanted
      cases hgu : o.guard with
      | none => rfl
      | some g => rw [hgu] at h1; cases h1
    unfold wpOp
    simp only [ho, hw, if_true]
    refine .inl (Oper.wp_mono (fun a' w' hI' => ?_) hx)
    refine any_inv hg hb hstep hend n _ a' w' (by simp [hs]) ?_ ?_
    · have hi' : i < l.toList.length := by simp; omega
      have e : (l.setIfInBounds i true).toList = l.toList.set i true := by simp
      have hf : l.toList[i] = false := by have := getD_both h0; simp [hs, hlt] at this ⊢; exact this
      rw [e, List.count_set hi', hf, if_pos (by rfl), if_neg (by decide)]
      have : 0 < l.toList.count false := List.count_pos_iff.2 (hf ▸ List.getElem_mem hi')
      omega
    · have e : (fun j => (l.setIfInBounds i true).getD j false) = fun j => l.getD j false || j == i := by
        funext j
        by_cases hj : i = j
        · subst hj
          simp [hs, hlt]
        · rw [getD_set_ne false hj]
          simp [Ne.symm hj]
      rw [e]
      exact hI'
theorem wp_opaque {o : Oper} {a : Act} {w : World} {I : Act → World → Prop} {Q : Exit → Act → World → Prop} (h : ∀ K : Act → World → Prop, (∀ a w, I a w → K a w) → o.wp P a w K Q) : o.wp P a w I Q := h I fun _ _ h => h
theorem wp_region_inv {id : Nat} {Q : Exit → Act → World → Prop} {a : Act} {w : World} {l : List Oper} (I : Act → World → (Nat → Bool) → Act → World → Prop) (hm : P.follows .mixedOrders = true) (hg : l.all (fun o => o.guard.isNone) = true) (hb : backB .any l.toArray = true)
    (hstart : I a w (fun _ => false) a { w with drawn := w.drawn + 1 }) (hstep : Steps P l.toArray .any (I a w) Q 0 l) (hend : ∀ a' w', (∃ p : Nat → Bool, (∀ i, i < l.length → p i = true) ∧ I a w p a' w') → Q .normal a' w') : (Code.region id l.toArray true).wp P Q a w := by
  refine wp_region_any hm (any_inv (I := I a w) (by simpa using hg) hb (by simpa using hstep) (fun p a' w' hp hi => hend a' w' ⟨p, fun i h => hp i (by simpa using h), hi⟩) _ _ _ _ (by simp) (by simp) ?_)
  have e : (fun j => (Array.replicate l.toArray.size false).getD j false) = fun _ => false := by funext j; exact getD_replicate_false _ _
  rw [e]
  exact hstart
end
end Go.Proofs.Ytmjpajaeffhdeaa.Grow
