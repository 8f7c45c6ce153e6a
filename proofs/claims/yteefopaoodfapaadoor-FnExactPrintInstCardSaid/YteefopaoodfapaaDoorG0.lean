/- A region whose order is open, by one fact J on memory that every operation keeps: each operation gives one value in every world in which J holds (a load of a cell that J names; a call that answers a number, whatever memory it makes). Then the order does not matter. -/
import Derived.Test.YteefopaoodfapaaDoorB0
import Derived.Still
/- In use: 'refine Grow.wp_region_growB (by kernel_rfl) (by kernel_rfl) ?_', then for each operation lex_skip or lex_do and lex_norm (see gen_valid.py), at the end lex_nil. -/
namespace Go.Proofs.YteefopaoodfapaaDoor.Grow
open Go.RowKit Go.Proofs.YteefopaoodfapaaDoorW.PrintWords Go.Proofs.YteefopaoodfapaaDoor.B
section
variable {P : Program} {ops : Array Oper} {md : Region.Mode} {J : World → Prop}
/-- The operation comes to value v, and J holds behind it. -/
def Upon (P : Program) (J : World → Prop) (v : Value) : Result Next → Prop
  | .ok (.value u) w => u = v ∧ J w
  | .ok .skip w => v = undef ∧ J w
  | .ok (.enter f args) w => Calls P f args w fun e w' => e = .returned v ∧ J w'
  | _ => False
def Gives (P : Program) (ops : Array Oper) (J : World → Prop) (o : Oper) (v : Value) (a : Act) : Prop :=
  (Region.wanted o (yielded ops a.tmps) = true ∧ ∀ w, J w → Upon P J v ((execOp a.eval o).run P w)) ∨ (Region.wanted o (yielded ops a.tmps) = false ∧ v = undef)
/-- The operations one behind the other, as the text has them. -/
def Lex (P : Program) (ops : Array Oper) (J : World → Prop) (Q : Act → Prop) : List Oper → Act → Prop
  | [], a => Q a
  | o :: r, a => ∃ v, Gives P ops J o v a ∧ Lex P ops J Q r (a.put o.dst v)
def AnyJ (P : Program) (md : Region.Mode) (ops : Array Oper) (J : World → Prop) (Q : Act → Prop) : Nat → Array Bool → Act → Prop
  | 0, l, a => Region.ready md ops l = [] ∧ Q a
  | n + 1, l, a => (Region.ready md ops l = [] → Q a) ∧ ∀ i ∈ Region.ready md ops l, ∀ o, ops[i]? = some o → ∃ v, Gives P ops J o v a ∧ AnyJ P md ops J Q n (l.setIfInBounds i true) (a.put o.dst v)
theorem Gives.same {o : Oper} {v : Value} {a a' : Act} (h : Gives P ops J o v a) (he : execOp a'.eval o = execOp a.eval o) (hw : Region.wanted o (yielded ops a'.tmps) = Region.wanted o (yielded ops a.tmps)) : Gives P ops J o v a' := by
  unfold Gives at *
  rw [he, hw]
  exact h
theorem any_first {Q : Act → Prop} {i : Nat} {oi : Oper} {v : Value} (hi : ops[i]? = some oi) (hsel : ∀ (j : Nat) (o : Oper) cs b, ops[j]? = some o → o.op ≠ .select cs b) :
    ∀ (n : Nat) (l : Array Bool) (a : Act),
      (∀ j oj, ops[j]? = some oj → j ≠ i → l.getD j true = false → (∀ e ∈ oj.after, Region.binds md e = true → e.on ≠ i) → oi.apart ops oj = true) →
      i ∈ Region.ready md ops l → Gives P ops J oi v a → AnyJ P md ops J Q n (l.setIfInBounds i true) (a.put oi.dst v) → AnyJ P md ops J Q (n + 1) l a := by
  intro n
  induction n with
  | zero =>
    intro l a _ hr hg H
    refine ⟨fun h => (by rw [h] at hr; cases hr), fun j hj o ho => ?_⟩
    by_cases e : j = i
    · subst e
      rw [hi] at ho; injection ho with ho; subst ho
      exact ⟨v, hg, H⟩
    · have := ready_mono hj e
      rw [H.1] at this; cases this
  | succ n ih =>
    intro l a hfree hr hg H
    refine ⟨fun h => (by rw [h] at hr; cases hr), fun j hj oj hoj => ?_⟩
    by_cases e : j = i
    · subst e
      rw [hi] at hoj; injection hoj with hoj; subst hoj
      exact ⟨v, hg, H⟩
    · obtain ⟨u, hu, hK⟩ := H.2 j (ready_mono hj e) oj hoj
      obtain ⟨hjun, oj', hoj', hall⟩ := mem_ready.1 hj
      rw [hoj] at hoj'; injection hoj' with hoj'; subst hoj'
      have hnot : ∀ e ∈ oj.after, Region.binds md e = true → e.on ≠ i := fun e he hb heq => by
        have h1 := hall e he hb
        have h0 := (mem_ready.1 hr).1
        rw [heq] at h1
        rcases Nat.lt_or_ge i l.size with h' | h'
        · simp [h'] at h0 h1; rw [h0] at h1; cases h1
        · simp [Array.getElem?_eq_none h'] at h1
      obtain ⟨h1, h2, h3⟩ := Oper.apart_spec (hfree j oj hoj e hjun hnot)
      refine ⟨u, hu.same (execOp_put oj (fun cs b => hsel j oj cs b hoj) a oi.dst v h1).symm (wanted_put oj a oi.dst v h1).symm, ?_⟩
      refine ih (l.setIfInBounds j true) _ (fun k ok hk hki hun hno => hfree k ok hk hki ?_ hno) (ready_mono hr (Ne.symm e)) (hg.same (execOp_put oi (fun cs b => hsel i oi cs b hi) a oj.dst u h3) (wanted_put oi a oj.dst u h3)) ?_
      · by_cases hjk : j = k
        · subst hjk; exact hjun
        · rw [getD_set_ne true hjk] at hun; exact hun
      · rw [Array.setIfInBounds_comm _ _ e, ← Act.put_comm a v u h2]
        exact hK
theorem any_lex {Q : Act → Prop} (hs : Region.noSelect ops = true) : ∀ (l : List Oper) (k : Nat) (b : Array Bool) (a : Act), (∀ j, l[j]? = ops[k + j]?) →
    Region.lexFrom md ops l.length k b = true → Lex P ops J Q l a → AnyJ P md ops J Q l.length b a
  | [], _, _, _, _, hB, h => ⟨by simpa [Region.lexFrom] using hB, h⟩
  | o :: l, k, b, a, hl, hB, h => by
    have h0 : ops[k]? = some o := by simpa using (hl 0).symm
    simp only [List.length_cons, Region.lexFrom, Bool.and_eq_true] at hB
    obtain ⟨⟨hr, hf⟩, hB'⟩ := hB
    obtain ⟨v, hg, hK⟩ := h
    exact any_first h0 (Region.noSelect_spec hs) l.length b a (Region.free_spec h0 hf) (by simpa using hr) hg
      (any_lex hs l (k + 1) _ _ (fun j => by have := hl (j + 1); simpa [Nat.add_assoc, Nat.add_comm 1 j] using this) hB' hK)
theorem any_sound {Q : Act → Prop} {Q' : Exit → Act → World → Prop} (hQ : ∀ a w, Q a → J w → Q' .normal a w) : ∀ (n : Nat) (l : Array Bool) (a : Act) (w : World), AnyJ P md ops J Q n l a → J w → wpAny P md ops Q' n l a w
  | 0, _, _, _, h, hJ => ⟨h.1, hQ _ _ h.2 hJ⟩
  | n + 1, l, a, w, h, hJ => by
    refine ⟨fun h0 => hQ _ _ (h.1 h0) hJ, fun i hi => ?_⟩
    obtain ⟨_, o, ho, _⟩ := mem_ready.1 hi
    obtain ⟨v, hg, hK⟩ := h.2 i hi o ho
    unfold wpOp
    simp only [ho]
    rcases hg with ⟨hw, hv⟩ | ⟨hw, rfl⟩
    · simp only [hw, if_true]
      refine .inl ?_
      have hu := hv w hJ
      unfold Oper.wp
      generalize (execOp a.eval o).run P w = r at hu
      cases r with
      | ok x w' =>
        cases x <;> simp only [Upon] at hu <;> simp only [Oper.upon]
        case value u => obtain ⟨rfl, hj⟩ := hu; exact any_sound hQ n _ _ _ hK hj
        case skip => obtain ⟨rfl, hj⟩ := hu; exact any_sound hQ n _ _ _ hK hj
        case enter f args => exact hu.mono fun e w'' ⟨he, hj⟩ => by subst he; exact any_sound hQ n _ _ _ hK hj
      | halt x w' => simp only [Upon] at hu
    · simp only [hw, Bool.false_eq_true, if_false]
      exact any_sound hQ n _ _ _ hK hJ
theorem wp_region_grow {id : Nat} {Q : Exit → Act → World → Prop} {a : Act} {w : World} {l : List Oper} (J : World → Prop) (hm : P.follows .mixedOrders = true) (hB : Region.lexB .any l.toArray = true) (hJ : J { w with drawn := w.drawn + 1 })
    (h : Lex P l.toArray J (fun a' => ∀ w', J w' → Q .normal a' w') l a) : (Code.region id l.toArray true).wp P Q a w := by
  simp only [Region.lexB, Bool.and_eq_true] at hB
  refine wp_region_any hm (any_sound (Q := fun a' => ∀ w', J w' → Q .normal a' w') (fun _ _ hq hj => hq _ hj) _ _ _ _ ?_ hJ)
  have := any_lex (md := .any) (P := P) (J := J) hB.1 l 0 (Array.replicate l.toArray.size false) a (by simp) (by simpa using hB.2) h
  simpa using this
theorem lex_nil {Q : Act → Prop} {a : Act} (h : Q a) : Lex P ops J Q [] a := h
theorem lex_do {Q : Act → Prop} {o : Oper} {r : List Oper} {a : Act} (v : Value) (hw : Region.wanted o (yielded ops a.tmps) = true) (hr : ∀ w, J w → Upon P J v ((execOp a.eval o).run P w)) (h : Lex P ops J Q r (a.put o.dst v)) : Lex P ops J Q (o :: r) a :=
  ⟨v, .inl ⟨hw, hr⟩, h⟩
theorem lex_skip {Q : Act → Prop} {o : Oper} {r : List Oper} {a : Act} (hw : Region.wanted o (yielded ops a.tmps) = false) (h : Lex P ops J Q r (a.put o.dst undef)) : Lex P ops J Q (o :: r) a :=
  ⟨undef, .inr ⟨hw, rfl⟩, h⟩
theorem lex_norm {Q : Act → Prop} {r : List Oper} {a : Act} (h : ∀ K : Act → Prop, (∀ a', Lex P ops J Q r a' → K a') → K a) : Lex P ops J Q r a := h _ fun _ h => h
theorem Upon.val {v : Value} {w : World} (h : J w) : Upon P J v (.ok (.value v) w) := ⟨rfl, h⟩
theorem Upon.skip {w : World} (h : J w) : Upon P J undef (.ok .skip w) := ⟨rfl, h⟩
theorem Upon.call {v : Value} {w : World} {f : FuncId} {args : Array Value} (h : Calls P f args w fun e w' => e = .returned v ∧ J w') : Upon P J v (.ok (.enter f args) w) := h
/-- w1 has grown out of w0. -/
structure Up (w0 w1 : World) : Prop where
  out : Below w0.heap.size w0 w1
/-- A call whose answer is a number and which touches nothing that was there. -/
theorem Upon.callB {v : Value} {w0 w : World} {f : FuncId} {args : Array Value} (hj : Up w0 w) (h : Calls P f args w fun e w' => e = .returned v ∧ Below w.heap.size w w') : Upon P (Up w0) v (.ok (.enter f args) w) := h.mono fun _ _ h => ⟨h.1, ⟨Go.Proofs.YteefopaoodfapaaDoor.B.bel_call hj.out h.2⟩⟩
theorem wp_region_growB {id : Nat} {Q : Exit → Act → World → Prop} {a : Act} {w : World} {l : List Oper} (hm : P.follows .mixedOrders = true) (hB : Region.lexB .any l.toArray = true)
    (h : Lex P l.toArray (Up w) (fun a' => ∀ w', Up w w' → Q .normal a' w') l a) : (Code.region id l.toArray true).wp P Q a w :=
  wp_region_grow _ hm hB ⟨below_drew (Below.refl _ _)⟩ h
end
end Go.Proofs.YteefopaoodfapaaDoor.Grow
