/- A region whose order is open, with a tail that comes behind all else: the operations ahead of the tail either give one value in every grown world, or make memory (a maker: what it makes is told by a fact that stays true as memory grows); no operation ahead of the tail looks at what a maker gave. The tail is walked as a list. As G3, but a maker may lean on makers that it waits for: what is told of them is at hand when it runs. A drawn region with makers, as in G4, where an operation may also mark a block of the region's own (a constant turned to bytes). append of a whole row, for kinds whose cells hang on no memory. A region whose order is open, by an invariant over what is done already: each operation keeps it whatever else is done. -/
import Derived.Test.YtbccaabaplbmhaaGreatDoorQT2
set_option linter.unusedVariables false
namespace Go.Proofs.YtbccaabaplbmhaaGreatDoor.Grow
open Go.RowKit Go.Proofs.YtbccaabaplbmhaaGreatDoorW.PrintWords Go.Proofs.YtbccaabaplbmhaaGreatDoor.B
section
variable {P : Program} {ops : Array Oper} {md : Region.Mode}
/-- The operation comes to a value of which R tells, and only makes memory. -/
def UponB (P : Program) (R : Value → World → Prop) (W : World) : Result Next → Prop
  | .ok (.value u) w => R u w ∧ Below W.heap.size W w
  | .ok .skip w => R undef w ∧ Below W.heap.size W w
  | .ok (.enter f args) w => Calls P f args w fun e w' => ∃ v, e = .returned v ∧ R v w' ∧ Below W.heap.size W w'
  | _ => False
theorem UponB.val {v : Value} {w : World} : UponB P (fun u _ => u = v) w (.ok (.value v) w) := ⟨rfl, Below.refl _ _⟩
theorem UponB.skip {w : World} : UponB P (fun u _ => u = undef) w (.ok .skip w) := ⟨rfl, Below.refl _ _⟩
theorem UponB.call {v : Value} {w : World} {f : FuncId} {args : Array Value} (h : Calls P f args w fun e w' => e = .returned v ∧ Below w.heap.size w w') : UponB P (fun u _ => u = v) w (.ok (.enter f args) w) :=
  h.mono fun _ _ h => ⟨_, h.1, rfl, h.2⟩
theorem UponB.made {R : Value → World → Prop} {w : World} {f : FuncId} {args : Array Value} (h : Calls P f args w fun e w' => ∃ v, e = .returned v ∧ R v w' ∧ Below w.heap.size w w') : UponB P R w (.ok (.enter f args) w) := h
def GivesB (P : Program) (ops : Array Oper) (w0 : World) (R : World → Value → World → Prop) (o : Oper) (a : Act) : Prop :=
  (Region.wanted o (yielded ops a.tmps) = true ∧ ∀ W, Up w0 W → UponB P (R W) W ((execOp a.eval o).run P W)) ∨ (Region.wanted o (yielded ops a.tmps) = false ∧ ∀ W, R W undef W)
/-- What a region makes: the makers (place in the text, slot) and what is told of each. -/
structure Makers where
  ml : List (Nat × Tmp)
  G : Nat → Value → Nat → Nat → World → Prop
  stays : ∀ i v lo hi W W', Below W.heap.size W W' → G i v lo hi W → G i v lo hi W'
def Makers.has (M : Makers) (i : Nat) : Bool := M.ml.any fun p => p.1 == i
def Plan (P : Program) (ops : Array Oper) (w0 : World) (M : Makers) (i : Nat) (o : Oper) (v : Value) (a : Act) : Prop :=
  if M.has i then v = undef ∧ GivesB P ops w0 (fun W u W' => M.G i u W.heap.size W'.heap.size W') o a else GivesB P ops w0 (fun _ u _ => u = v) o a
/-- The operations one behind the other, as the text has them. -/
def LexP (P : Program) (ops : Array Oper) (w0 : World) (M : Makers) (K : Act → Prop) : Nat → List Oper → Act → Prop
  | _, [], a => K a
  | k, o :: r, a => ∃ v, Plan P ops w0 M k o v a ∧ LexP P ops w0 M K (k + 1) r (a.put o.dst v)
def AnyP (P : Program) (md : Region.Mode) (ops : Array Oper) (w0 : World) (M : Makers) (m : Nat) (K : Array Bool → Act → Prop) : Nat → Array Bool → Act → Prop
  | 0, l, a => K l a
  | n + 1, l, a => Region.ready md ops l ≠ [] ∧ ∀ i ∈ Region.ready md ops l, i < m ∧ ∀ o, ops[i]? = some o → ∃ v, Plan P ops w0 M i o v a ∧ AnyP P md ops w0 M m K n (l.setIfInBounds i true) (a.put o.dst v)
theorem Plan.same {w0 : World} {M : Makers} {i : Nat} {o : Oper} {v : Value} {a a' : Act} (h : Plan P ops w0 M i o v a) (he : execOp a'.eval o = execOp a.eval o) (hw : Region.wanted o (yielded ops a'.tmps) = Region.wanted o (yielded ops a.tmps)) : Plan P ops w0 M i o v a' := by
  unfold Plan GivesB at *
  rw [he, hw]
  exact h
def Shut (md : Region.Mode) (ops : Array Oper) (l : Array Bool) : Prop := ∀ i o, ops[i]? = some o → l.getD i false = true → ∀ e ∈ o.after, Region.binds md e = true → l.getD e.on false = true
theorem Shut.set {l : Array Bool} {j : Nat} (h : Shut md ops l) (hj : j ∈ Region.ready md ops l) : Shut md ops (l.setIfInBounds j true) := by
  intro i o ho hi e he hb
  by_cases hij : j = i
  · subst hij
    obtain ⟨_, o', ho', hall⟩ := mem_ready.1 hj
    rw [ho] at ho'; injection ho' with ho'; subst ho'
    exact getD_set_true (hall e he hb)
  · rw [getD_set_ne false hij] at hi
    exact getD_set_true (h i o ho hi e he hb)
def waits (md : Region.Mode) (ops : Array Oper) (i j : Nat) : Bool := match ops[j]? with | some o => o.after.any fun e => e.on == i && Region.binds md e | none => false
theorem waits_spec {i j : Nat} (h : waits md ops i j = true) : ∃ o, ops[j]? = some o ∧ ∃ e ∈ o.after, e.on = i ∧ Region.binds md e = true := by
  unfold waits at h
  cases ho : ops[j]? with
  | none => rw [ho] at h; cases h
  | some o =>
    rw [ho] at h
    obtain ⟨e, he, h1⟩ := Array.any_eq_true'.1 h
    simp only [Bool.and_eq_true, beq_iff_eq] at h1
    exact ⟨o, rfl, e, he, h1.1, h1.2⟩
/-- All ahead of m lead to m; all behind m wait for one from m on. -/
def cutB (md : Region.Mode) (ops : Array Oper) (m : Nat) : Bool :=
  ((List.range m).all fun i => (List.range (m + 1)).any fun j => decide (i < j) && waits md ops i j) && ((List.range ops.size).all fun j => decide (j ≤ m) || (List.range j).any fun i => decide (m ≤ i) && waits md ops i j)
theorem cut_spec {m : Nat} (h : cutB md ops m = true) {l : Array Bool} (hs : Shut md ops l) {i : Nat} (hi : i ∈ Region.ready md ops l) (him : i < m) {j : Nat} (hj : j ∈ Region.ready md ops l) : j < m := by
  unfold cutB at h
  rw [Bool.and_eq_true] at h
  obtain ⟨h1, h2⟩ := h
  -- if all from m on that is listed or ready leads back to m being so
  have back : ∀ j, m ≤ j → j < ops.size → (j ∈ Region.ready md ops l ∨ l.getD j false = true) → (m ∈ Region.ready md ops l ∨ l.getD m false = true) := by
    intro j
    induction j using Nat.strongRecOn with
    | _ j ih =>
      intro hmj hjs hj
      rcases Nat.lt_or_ge m j with hlt | hge
      · have h3 := List.all_eq_true.1 h2 j (List.mem_range.2 hjs)
        rw [Bool.or_eq_true] at h3
        rcases h3 with h3 | h3
        · have := of_decide_eq_true h3; omega
        · obtain ⟨i', hi', h4⟩ := List.any_eq_true.1 h3
          rw [Bool.and_eq_true] at h4
          obtain ⟨o, ho, e, he, hon, hb⟩ := waits_spec h4.2
          have hl : l.getD i' false = true := by
            rcases hj with hj | hj
            · obtain ⟨_, o', ho', hall⟩ := mem_ready.1 hj
              rw [ho] at ho'; injection ho' with ho'; subst ho'
              rw [← hon]; exact hall e he hb
            · rw [← hon]; exact hs j o ho hj e he hb
          have hij' := List.mem_range.1 hi'
          exact ih i' hij' (of_decide_eq_true h4.1) (by omega) (.inr hl)
      · have : j = m := by omega
        subst this; exact hj
  have fwd : (m ∈ Region.ready md ops l ∨ l.getD m false = true) → ∀ d i, i < m → m - i ≤ d → l.getD i false = true := by
    intro hm d
    induction d with
    | zero => intro i h0 h00; omega
    | succ d ih =>
      intro i him hd
      have h3 := List.all_eq_true.1 h1 i (List.mem_range.2 him)
      obtain ⟨j', hj', h4⟩ := List.any_eq_true.1 h3
      rw [Bool.and_eq_true] at h4
      have hij' := of_decide_eq_true h4.1
      have hj'm := List.mem_range.1 hj'
      obtain ⟨o, ho, e, he, hon, hb⟩ := waits_spec h4.2
      rw [← hon]
      rcases Nat.lt_or_ge j' m with hlt | hge
      · exact hs j' o ho (ih j' hlt (by omega)) e he hb
      · have : j' = m := by omega
        subst this
        rcases hm with hm | hm
        · obtain ⟨_, o', ho', hall⟩ := mem_ready.1 hm
          rw [ho] at ho'; injection ho' with ho'; subst ho'
          exact hall e he hb
        · exact hs j' o ho hm e he hb
  rcases Nat.lt_or_ge j m with hlt | hge
  · exact hlt
  · exfalso
    obtain ⟨_, o, ho, _⟩ := mem_ready.1 hj
    have hl := fwd (back j hge (Array.getElem?_eq_some_iff.1 ho).1 (.inl hj)) m i him (by omega)
    have h0 := (mem_ready.1 hi).1
    rcases Nat.lt_or_ge i l.size with h' | h'
    · simp [h'] at h0 hl; rw [h0] at hl; cases hl
    · simp [Array.getElem?_eq_none h'] at hl
theorem anyP_first {w0 : World} {M : Makers} {K : Array Bool → Act → Prop} {m i : Nat} {oi : Oper} {v : Value} (hi : ops[i]? = some oi) (him : i < m) (hcut : cutB md ops m = true) (hK : ∀ l a, K l a → ∀ j ∈ Region.ready md ops l, m ≤ j) (hsel : ∀ (j : Nat) (o : Oper) cs b, ops[j]? = some o → o.op ≠ .select cs b) :
    ∀ (n : Nat) (l : Array Bool) (a : Act), Shut md ops l →
      (∀ j oj, ops[j]? = some oj → j ≠ i → l.getD j true = false → (∀ e ∈ oj.after, Region.binds md e = true → e.on ≠ i) → oi.apart ops oj = true) →
      i ∈ Region.ready md ops l → Plan P ops w0 M i oi v a → AnyP P md ops w0 M m K n (l.setIfInBounds i true) (a.put oi.dst v) → AnyP P md ops w0 M m K (n + 1) l a := by
  intro n
  induction n with
  | zero =>
    intro l a hs _ hr hg H
    refine ⟨fun h => (by rw [h] at hr; cases hr), fun j hj => ⟨cut_spec hcut hs hr him hj, fun o ho => ?_⟩⟩
    by_cases e : j = i
    · subst e
      rw [hi] at ho; injection ho with ho; subst ho
      exact ⟨v, hg, H⟩
    · have h1 := hK _ _ H j (ready_mono hj e)
      have h2 := cut_spec hcut hs hr him hj
      omega
  | succ n ih =>
    intro l a hs hfree hr hg H
    refine ⟨fun h => (by rw [h] at hr; cases hr), fun j hj => ⟨cut_spec hcut hs hr him hj, fun oj hoj => ?_⟩⟩
    by_cases e : j = i
    · subst e
      rw [hi] at hoj; injection hoj with hoj; subst hoj
      exact ⟨v, hg, H⟩
    · obtain ⟨u, hu, hK'⟩ := (H.2 j (ready_mono hj e)).2 oj hoj
      obtain ⟨hjun, oj', hoj', hall⟩ := mem_ready.1 hj
      rw [hoj] at hoj'; injection hoj' with hoj'; subst hoj'
      have hnot : ∀ e ∈ oj.after, Region.binds md e = true → e.on ≠ i := fun e he hb heq => by
        have h1 := hall e he hb
        have h0 := (mem_ready.1 hr).1
        rw [heq] at h1
        rcases Nat.lt_or_ge i l.size with h' | h'
        · simp [h'] at h0 h1; rw [h0] at h1; cases h1
        · simp [Array.getElem?_eq_none h'] at h1
      obtain ⟨h1, h2, h3⟩ := Oper.apart_spec (hfree j oj hoj e hjun hnot)
      refine ⟨u, hu.same (execOp_put oj (fun cs b => hsel j oj cs b hoj) a oi.dst v h1).symm (wanted_put oj a oi.dst v h1).symm, ?_⟩
      refine ih (l.setIfInBounds j true) _ (hs.set hj) (fun k ok hk hki hun hno => hfree k ok hk hki ?_ hno) (ready_mono hr (Ne.symm e)) (hg.same (execOp_put oi (fun cs b => hsel i oi cs b hi) a oj.dst u h3) (wanted_put oi a oj.dst u h3)) ?_
      · by_cases hjk : j = k
        · subst hjk; exact hjun
        · rw [getD_set_ne true hjk] at hun; exact hun
      · rw [Array.setIfInBounds_comm _ _ e, ← Act.put_comm a v u h2]
        exact hK'
/-- The text's order, ahead of the tail. -/
def lexTo (md : Region.Mode) (ops : Array Oper) : Nat → Nat → Array Bool → Bool
  | 0, _, _ => true
  | n + 1, k, l => (Region.ready md ops l).contains k && Region.free md ops l k && lexTo md ops n (k + 1) (l.setIfInBounds k true)
def doneTo : Nat → Nat → Array Bool → Array Bool
  | 0, _, l => l
  | n + 1, k, l => doneTo n (k + 1) (l.setIfInBounds k true)
theorem anyP_lex {w0 : World} {M : Makers} {K : Act → Prop} {m : Nat} {L : Array Bool} (hcut : cutB md ops m = true) (hs : Region.noSelect ops = true) (hL : ∀ j ∈ Region.ready md ops L, m ≤ j) : ∀ (l : List Oper) (k : Nat) (b : Array Bool) (a : Act), Shut md ops b → k + l.length = m → (∀ j o, l[j]? = some o → ops[k + j]? = some o) →
    lexTo md ops l.length k b = true → doneTo l.length k b = L → LexP P ops w0 M K k l a → AnyP P md ops w0 M m (fun l' a' => l' = L ∧ K a') l.length b a
  | [], _, _, _, _, _, _, _, hd, h => ⟨hd, h⟩
  | o :: l, k, b, a, hsh, hm, hl, hB, hd, h => by
    have h0 : ops[k]? = some o := by simpa using hl 0 o rfl
    simp only [List.length_cons, lexTo, Bool.and_eq_true] at hB
    obtain ⟨⟨hr, hf⟩, hB'⟩ := hB
    have hr' : k ∈ Region.ready md ops b := by simpa using hr
    obtain ⟨v, hg, hK⟩ := h
    exact anyP_first (K := fun l' a' => l' = L ∧ K a') h0 (by simp only [List.length_cons] at hm; omega) hcut (fun l' a' h j hj => hL j (h.1 ▸ hj)) (Region.noSelect_spec hs) l.length b a hsh (Region.free_spec h0 hf) hr' hg
      (anyP_lex hcut hs hL l (k + 1) _ _ (hsh.set hr') (by simp only [List.length_cons] at hm; omega) (fun j o hj => by have := hl (j + 1) o (by simpa using hj); simpa [Nat.add_assoc, Nat.add_comm 1 j] using this) hB' hd hK)
/-- The makers' slots, filled. -/
def putM (ml : List (Nat × Tmp)) (l : Array Bool) (u : Nat → Value) (a : Act) : Act := ml.foldl (fun a p => if l.getD p.1 false then a.put (some p.2) (u p.1) else a) a
theorem put_put (a : Act) (d : Tmp) (x y : Value) : (a.put (some d) x).put (some d) y = a.put (some d) y := by simp [Act.put]
theorem putM_put {l : Array Bool} {u : Nat → Value} {d : Option Tmp} {v : Value} : ∀ (ml : List (Nat × Tmp)) (a : Act), (∀ p ∈ ml, some p.2 ≠ d) → putM ml l u (a.put d v) = (putM ml l u a).put d v
  | [], a, _ => rfl
  | p :: ml, a, h => by
    show putM ml l u (if l.getD p.1 false then (a.put d v).put (some p.2) (u p.1) else a.put d v) = (putM ml l u (if l.getD p.1 false then a.put (some p.2) (u p.1) else a)).put d v
    split
    · rw [← putM_put ml _ (fun q hq => h q (List.mem_cons_of_mem _ hq))]
      congr 1
      exact Act.put_comm a v (u p.1) (fun d' hd' heq => h p List.mem_cons_self (by rw [hd', heq]))
    · exact putM_put ml _ (fun q hq => h q (List.mem_cons_of_mem _ hq))
theorem putM_set {l : Array Bool} {u : Nat → Value} {j : Nat} {x : Value} : ∀ (ml : List (Nat × Tmp)) (a : Act), (∀ p ∈ ml, p.1 ≠ j) → putM ml (l.setIfInBounds j true) (fun k => if k = j then x else u k) a = putM ml l u a
  | [], a, _ => rfl
  | p :: ml, a, h => by
    have hp := h p List.mem_cons_self
    show putM ml (l.setIfInBounds j true) (fun k => if k = j then x else u k) (if (l.setIfInBounds j true).getD p.1 false then a.put (some p.2) (if p.1 = j then x else u p.1) else a) = putM ml l u (if l.getD p.1 false then a.put (some p.2) (u p.1) else a)
    rw [getD_set_ne false (Ne.symm hp), if_neg hp]
    exact putM_set ml _ (fun q hq => h q (List.mem_cons_of_mem _ hq))
theorem putM_make {l : Array Bool} {u : Nat → Value} {j : Nat} {d : Tmp} {x : Value} (hl : l.getD j false = false) (hj : j < l.size) : ∀ (ml : List (Nat × Tmp)) (a : Act), ml.Pairwise (fun p q => p.1 ≠ q.1 ∧ p.2 ≠ q.2) → (j, d) ∈ ml →
    putM ml (l.setIfInBounds j true) (fun k => if k = j then x else u k) (a.put (some d) undef) = (putM ml l u a).put (some d) x
  | [], a, _, h => by cases h
  | p :: ml, a, hp, h => by
    obtain ⟨hp1, hp2⟩ := List.pairwise_cons.1 hp
    rcases List.mem_cons.1 h with rfl | h
    · show putM ml (l.setIfInBounds j true) (fun k => if k = j then x else u k) (if (l.setIfInBounds j true).getD j false then (a.put (some d) undef).put (some d) (if j = j then x else u j) else a.put (some d) undef) = (putM ml l u (if l.getD j false then a.put (some d) (u j) else a)).put (some d) x
      rw [if_pos (by simp [hj]), if_pos rfl, if_neg (by rw [hl]; decide), put_put, putM_set ml _ (fun q hq => Ne.symm (hp1 q hq).1), putM_put ml _ (fun q hq he => (hp1 q hq).2 (by injection he with he; exact he.symm))]
    · have hne := hp1 _ h
      show putM ml (l.setIfInBounds j true) (fun k => if k = j then x else u k) (if (l.setIfInBounds j true).getD p.1 false then (a.put (some d) undef).put (some p.2) (if p.1 = j then x else u p.1) else a.put (some d) undef) = (putM ml l u (if l.getD p.1 false then a.put (some p.2) (u p.1) else a)).put (some d) x
      rw [getD_set_ne false (Ne.symm hne.1), if_neg hne.1, ← putM_make hl hj ml _ hp2 h]
      congr 1
      split
      · exact (Act.put_comm a (u p.1) undef (fun d' hd' heq => by injection hd' with hd'; injection heq with heq; exact hne.2 (hd'.trans heq.symm))).symm
      · rfl
def blindB (ops : Array Oper) (m : Nat) (ml : List (Nat × Tmp)) : Bool :=
  (List.range m).all fun i => match ops[i]? with
    | some o => ml.all fun p => !(o.looksAt ops).contains p.2 && (if p.1 == i then o.dst == some p.2 else o.dst != some p.2)
    | none => true
theorem putM_exec {l : Array Bool} {u : Nat → Value} {o : Oper} (hsel : ∀ cs b, o.op ≠ .select cs b) : ∀ (ml : List (Nat × Tmp)) (a : Act), (∀ p ∈ ml, p.2 ∉ o.looksAt ops) →
    execOp (putM ml l u a).eval o = execOp a.eval o ∧ Region.wanted o (yielded ops (putM ml l u a).tmps) = Region.wanted o (yielded ops a.tmps)
  | [], a, _ => ⟨rfl, rfl⟩
  | p :: ml, a, h => by
    have ih := putM_exec (l := l) (u := u) hsel ml (if l.getD p.1 false then a.put (some p.2) (u p.1) else a) (fun q hq => h q (List.mem_cons_of_mem _ hq))
    have e : putM (p :: ml) l u a = putM ml l u (if l.getD p.1 false then a.put (some p.2) (u p.1) else a) := rfl
    rw [e, ih.1, ih.2]
    split
    · have hd : ∀ d, some p.2 = some d → d ∉ o.looksAt ops := fun d hd => by injection hd with hd; rw [← hd]; exact h p List.mem_cons_self
      exact ⟨execOp_put o hsel a (some p.2) (u p.1) hd, wanted_put o a (some p.2) (u p.1) hd⟩
    · exact ⟨rfl, rfl⟩
/-- What is known of the makers that have run. -/
def Known (md : Region.Mode) (ops : Array Oper) (w0 : World) (M : Makers) (l : Array Bool) (u : Nat → Value) (lo hi : Nat → Nat) (W : World) : Prop :=
  (∀ i, M.has i = true → l.getD i false = true → M.G i (u i) (lo i) (hi i) W ∧ w0.heap.size ≤ lo i ∧ lo i ≤ hi i ∧ hi i ≤ W.heap.size) ∧
  ∀ i j, M.has i = true → M.has j = true → l.getD j false = true → waits md ops i j = true → hi i ≤ lo j
theorem Known.grow {w0 : World} {M : Makers} {l : Array Bool} {u : Nat → Value} {lo hi : Nat → Nat} {W W' : World} {j : Nat} (h : Known md ops w0 M l u lo hi W) (hb : Below W.heap.size W W') (hj : M.has j = false) : Known md ops w0 M (l.setIfInBounds j true) u lo hi W' := by
  have hne : ∀ i, M.has i = true → j ≠ i := fun i h1 h2 => by rw [h2, h1] at hj; cases hj
  refine ⟨fun i h1 h2 => ?_, fun i k h1 h2 h3 h4 => ?_⟩
  · rw [getD_set_ne false (hne i h1)] at h2
    obtain ⟨a, b, c, d⟩ := h.1 i h1 h2
    exact ⟨M.stays _ _ _ _ _ _ hb a, b, c, Nat.le_trans d hb.size⟩
  · rw [getD_set_ne false (hne k h2)] at h3
    exact h.2 i k h1 h2 h3 h4
theorem Known.make {w0 : World} {M : Makers} {l : Array Bool} {u : Nat → Value} {lo hi : Nat → Nat} {W W' : World} {j : Nat} {x : Value} (h : Known md ops w0 M l u lo hi W) (hw : Up w0 W) (hb : Below W.heap.size W W') (hl : l.getD j false = false) (hs : Shut md ops l) (hr : j ∈ Region.ready md ops l) (hG : M.G j x W.heap.size W'.heap.size W') :
    Known md ops w0 M (l.setIfInBounds j true) (fun k => if k = j then x else u k) (fun k => if k = j then W.heap.size else lo k) (fun k => if k = j then W'.heap.size else hi k) W' := by
  refine ⟨fun i h1 h2 => ?_, fun i k h1 h2 h3 h4 => ?_⟩
  · by_cases e : i = j
    · subst e
      simp only [if_true]
      exact ⟨hG, hw.out.size, hb.size, Nat.le_refl _⟩
    · simp only [if_neg e]
      rw [getD_set_ne false (Ne.symm e)] at h2
      obtain ⟨a, b, c, d⟩ := h.1 i h1 h2
      exact ⟨M.stays _ _ _ _ _ _ hb a, b, c, Nat.le_trans d hb.size⟩
  · obtain ⟨o, ho, e, he, hon, hbi⟩ := waits_spec h4
    by_cases ek : k = j
    · subst ek
      obtain ⟨_, o', ho', hall⟩ := mem_ready.1 hr
      rw [ho] at ho'; injection ho' with ho'; subst ho'
      have hli := hall e he hbi
      rw [hon] at hli
      have ne : i ≠ k := fun h => by rw [h, hl] at hli; cases hli
      simp only [if_neg ne, if_true]
      exact (h.1 i h1 hli).2.2.2
    · rw [getD_set_ne false (Ne.symm ek)] at h3
      have hli := hs k o ho h3 e he hbi
      rw [hon] at hli
      have ne : i ≠ j := fun h => by rw [h, hl] at hli; cases hli
      simp only [if_neg ne, if_neg ek]
      exact h.2 i k h1 h2 h3 h4
theorem wp_of_upon {o : Oper} {a : Act} {R : Value → World → Prop} {K : Act → World → Prop} {Q : Exit → Act → World → Prop} {W : World} {r : Result Next} (hr : (execOp a.eval o).run P W = r) (h : UponB P R W r) (hK : ∀ x W', R x W' → Below W.heap.size W W' → K (a.put o.dst x) W') : o.wp P a W K Q := by
  unfold Oper.wp
  rw [hr]
  cases r with
  | ok x w' =>
    cases x <;> simp only [UponB] at h <;> simp only [Oper.upon]
    case value u => exact hK _ _ h.1 h.2
    case skip => exact hK _ _ h.1 h.2
    case enter f args => exact h.mono fun e w'' ⟨v, he, h1, h2⟩ => by subst he; exact hK _ _ h1 h2
  | halt x w' => simp only [UponB] at h
theorem anyP_sound {w0 : World} {M : Makers} {K : Act → Prop} {Q : Exit → Act → World → Prop} {m f : Nat} {L : Array Bool} (hsel : Region.noSelect ops = true) (hbl : blindB ops m M.ml = true) (hp : M.ml.Pairwise (fun p q => p.1 ≠ q.1 ∧ p.2 ≠ q.2))
    (hend : ∀ a u lo hi W, K a → Up w0 W → Known md ops w0 M L u lo hi W → wpAny P md ops Q f L (putM M.ml L u a) W) :
    ∀ (n : Nat) (l : Array Bool) (a : Act) (u : Nat → Value) (lo hi : Nat → Nat) (W : World), l.size = ops.size → Shut md ops l →
      AnyP P md ops w0 M m (fun l' a' => l' = L ∧ K a') n l a → Up w0 W → Known md ops w0 M l u lo hi W → wpAny P md ops Q (f + n) l (putM M.ml l u a) W
  | 0, l, a, u, lo, hi, W, _, _, h, hW, hk => by
    obtain ⟨rfl, hK⟩ := h
    exact hend a u lo hi W hK hW hk
  | n + 1, l, a, u, lo, hi, W, hsz, hsh, h, hW, hk => by
    show wpAny P md ops Q ((f + n) + 1) l _ W
    refine ⟨fun h0 => absurd h0 h.1, fun i hi' => ?_⟩
    obtain ⟨him, hpl⟩ := h.2 i hi'
    obtain ⟨h0, o, ho, hall⟩ := mem_ready.1 hi'
    have hil := (Array.getElem?_eq_some_iff.1 ho).1
    obtain ⟨v, hg, hK⟩ := hpl o ho
    have hb1 := List.all_eq_true.1 hbl i (List.mem_range.2 him)
    simp only [ho] at hb1
    have hb2 : ∀ p ∈ M.ml, p.2 ∉ o.looksAt ops ∧ (if p.1 = i then o.dst = some p.2 else o.dst ≠ some p.2) := fun p hp => by
      have := List.all_eq_true.1 hb1 p hp
      rw [Bool.and_eq_true] at this
      refine ⟨by simpa using this.1, ?_⟩
      by_cases e : p.1 = i
      · simpa [e] using this.2
      · simpa [e] using this.2
    obtain ⟨e1, e2⟩ := putM_exec (l := l) (u := u) (Region.noSelect_spec hsel i o · · ho) M.ml a (fun p hp => (hb2 p hp).1)
    have hln : l.getD i false = false := getD_both h0
    unfold Plan at hg
    unfold wpOp
    simp only [ho]
    rw [e2]
    cases hmk : M.has i with
    | true =>
      rw [hmk] at hg
      obtain ⟨rfl, hg⟩ := hg
      obtain ⟨p, hpm, hpi⟩ := List.any_eq_true.1 hmk
      have hpi' : p.1 = i := by simpa using hpi
      have hd : o.dst = some p.2 := by have := (hb2 p hpm).2; rwa [if_pos hpi'] at this
      have next : ∀ x W', M.G i x W.heap.size W'.heap.size W' → Below W.heap.size W W' → wpAny P md ops Q (f + n) (l.setIfInBounds i true) ((putM M.ml l u a).put o.dst x) W' := fun x W' hG hbe => by
        have e := putM_make (u := u) (x := x) hln (by rw [hsz]; exact hil) M.ml a hp (show (i, p.2) ∈ M.ml by rw [← hpi']; exact hpm)
        rw [hd, ← e, ← hd]
        exact anyP_sound hsel hbl hp hend n _ _ _ _ _ _ (by simp [hsz]) (hsh.set hi') hK ⟨bel_call hW.out hbe⟩ (hk.make hW hbe hln hsh hi' hG)
      rcases hg with ⟨hw, hv⟩ | ⟨hw, hv⟩
      · rw [if_pos hw]
        refine .inl ?_
        exact wp_of_upon (by rw [e1]) (hv W hW) next
      · rw [if_neg (by rw [hw]; decide)]
        exact next _ _ (hv W) (Below.refl _ _)
    | false =>
      rw [hmk] at hg
      have hn : ∀ p ∈ M.ml, p.1 ≠ i := fun p hp e => by
        have : M.has i = true := List.any_eq_true.2 ⟨p, hp, by simp [e]⟩
        rw [hmk] at this; cases this
      have next : ∀ x W', x = v → Below W.heap.size W W' → wpAny P md ops Q (f + n) (l.setIfInBounds i true) ((putM M.ml l u a).put o.dst x) W' := fun x W' hx hbe => by
        subst hx
        have e := putM_set (l := l) (u := u) (j := i) (x := u i) M.ml (a.put o.dst x) hn
        have eu : (fun k => if k = i then u i else u k) = u := by funext k; split <;> simp_all
        rw [eu] at e
        rw [← putM_put M.ml a (fun p hp e => by have := (hb2 p hp).2; rw [if_neg (hn p hp)] at this; exact this e.symm), ← e]
        exact anyP_sound hsel hbl hp hend n _ _ _ _ _ _ (by simp [hsz]) (hsh.set hi') hK ⟨bel_call hW.out hbe⟩ (hk.grow hbe hmk)
      rcases hg with ⟨hw, hv⟩ | ⟨hw, hv⟩
      · rw [if_pos hw]
        refine .inl ?_
        exact wp_of_upon (by rw [e1]) (hv W hW) next
      · rw [if_neg (by rw [hw]; decide)]
        exact next _ _ (hv W) (Below.refl _ _)
/-- The tail, operation behind operation. -/
def chainB (md : Region.Mode) (ops : Array Oper) : Nat → Nat → Array Bool → Bool
  | 0, _, l => (Region.ready md ops l).isEmpty
  | n + 1, k, l => Region.ready md ops l == [k] && chainB md ops n (k + 1) (l.setIfInBounds k true)
theorem chain_list {Q : Exit → Act → World → Prop} : ∀ (s : List Oper) (k : Nat) (l : Array Bool), (∀ j o, s[j]? = some o → ops[k + j]? = some o) → chainB md ops s.length k l = true → ∀ a W, wpList P ops Q s a W → wpAny P md ops Q s.length l a W
  | [], k, l, _, hc, a, W, h => ⟨by simpa [chainB] using hc, h⟩
  | o :: s, k, l, hl, hc, a, W, h => by
    have h0 : ops[k]? = some o := by simpa using hl 0 o rfl
    simp only [List.length_cons, chainB, Bool.and_eq_true, beq_iff_eq] at hc
    refine ⟨fun h1 => (by rw [hc.1] at h1; cases h1), fun i hi => ?_⟩
    rw [hc.1] at hi
    have hik : i = k := by simpa using hi
    subst hik
    have ih := chain_list (Q := Q) s (i + 1) (l.setIfInBounds i true) (fun j o hj => by have := hl (j + 1) o (by simpa using hj); simpa [Nat.add_assoc, Nat.add_comm 1 j] using this) hc.2
    unfold wpOp
    simp only [h0]
    unfold wpList at h
    split
    · rename_i hw
      rw [if_pos hw] at h
      exact h.imp (Oper.wp_mono ih) id
    · rename_i hw
      rw [if_neg hw] at h
      exact ih _ _ h
def planB (md : Region.Mode) (ops : Array Oper) (m f : Nat) (ml : List (Nat × Tmp)) : Bool :=
  Region.noSelect ops && blindB ops m ml && cutB md ops m && lexTo md ops m 0 (Array.replicate ops.size false) && (Region.ready md ops (doneTo m 0 (Array.replicate ops.size false))).all (fun j => decide (m ≤ j)) && chainB md ops f m (doneTo m 0 (Array.replicate ops.size false)) && decide (m + f = ops.size) && (List.range m).all fun j => (doneTo m 0 (Array.replicate ops.size false)).getD j false
theorem wp_region_plan {id : Nat} {Q : Exit → Act → World → Prop} {a : Act} {w : World} {l : List Oper} (m : Nat) (M : Makers) (hm : P.follows .mixedOrders = true) (hp : M.ml.Pairwise (fun p q => p.1 ≠ q.1 ∧ p.2 ≠ q.2)) (hB : planB .any l.toArray m (l.drop m).length M.ml = true) (hml : M.ml.all (fun p => decide (p.1 < m)) = true)
    (h : LexP P l.toArray w M (fun a' => ∀ (u : Nat → Value) (lo hi : Nat → Nat) (W : World), Up w W → (∀ i, M.has i = true → M.G i (u i) (lo i) (hi i) W ∧ w.heap.size ≤ lo i ∧ lo i ≤ hi i ∧ hi i ≤ W.heap.size) → (∀ i j, M.has i = true → M.has j = true → waits .any l.toArray i j = true → hi i ≤ lo j) →
      wpList P l.toArray Q (l.drop m) (M.ml.foldl (fun a p => a.put (some p.2) (u p.1)) a') W) 0 (l.take m) a) : (Code.region id l.toArray true).wp P Q a w := by
  unfold planB at hB
  simp only [Bool.and_eq_true, decide_eq_true_eq] at hB
  obtain ⟨⟨⟨⟨⟨⟨⟨h1, h2⟩, h3⟩, h4⟩, h5⟩, h6⟩, h7⟩, h8⟩ := hB
  have hmle : m ≤ l.length := by have : l.toArray.size = l.length := by simp
                                 omega
  have hlt : (l.take m).length = m := by simp; omega
  refine wp_region_any hm ?_
  have hdone : ∀ p ∈ M.ml, (doneTo m 0 (Array.replicate l.toArray.size false)).getD p.1 false = true := fun p hp => List.all_eq_true.1 h8 p.1 (List.mem_range.2 (of_decide_eq_true (List.all_eq_true.1 hml p hp)))
  have hput : ∀ (ml : List (Nat × Tmp)) (u : Nat → Value) (a : Act), (∀ p ∈ ml, (doneTo m 0 (Array.replicate l.toArray.size false)).getD p.1 false = true) → putM ml (doneTo m 0 (Array.replicate l.toArray.size false)) u a = ml.foldl (fun a p => a.put (some p.2) (u p.1)) a := by
    intro ml
    induction ml with
    | nil => intro u a _; rfl
    | cons p ml ih =>
      intro u a hh
      show putM ml _ u (if _ then _ else _) = ml.foldl _ _
      rw [if_pos (hh p List.mem_cons_self)]
      exact ih u _ (fun q hq => hh q (List.mem_cons_of_mem _ hq))
  have hput0 : ∀ (ml : List (Nat × Tmp)) (u : Nat → Value) (a : Act), putM ml (Array.replicate l.toArray.size false) u a = a := by
    intro ml
    induction ml with
    | nil => intro u a; rfl
    | cons p ml ih =>
      intro u a
      show putM ml _ u (if _ then _ else _) = a
      rw [if_neg (by rw [getD_replicate_false]; decide)]
      exact ih u a
  have hA := anyP_lex (md := .any) (P := P) (ops := l.toArray) (w0 := w) (M := M) (m := m) (L := doneTo m 0 (Array.replicate l.toArray.size false)) (K := _) h3 h1 (fun j hj => of_decide_eq_true (List.all_eq_true.1 h5 j hj)) (l.take m) 0 (Array.replicate l.toArray.size false) a
    (fun i o _ hi => by rw [getD_replicate_false] at hi; cases hi) (by rw [hlt]; omega) (fun j o hj => by
      rw [Nat.zero_add]
      have hjm : j < m := by have := (List.getElem?_eq_some_iff.1 hj).1; omega
      rw [List.getElem?_take_of_lt hjm] at hj
      simpa using hj) (by rw [hlt]; exact h4) (by rw [hlt]) h
  rw [hlt] at hA
  have hS := anyP_sound (md := .any) (P := P) (ops := l.toArray) (w0 := w) (M := M) (Q := Q) (m := m) (f := (l.drop m).length) (L := doneTo m 0 (Array.replicate l.toArray.size false)) h1 h2 hp (fun a' u lo hi W hK hW hk => by
    rw [hput M.ml u a' hdone]
    refine chain_list (l.drop m) m _ (fun j o hj => by rw [List.getElem?_drop] at hj; simpa using hj) h6 _ _ ?_
    exact hK u lo hi W hW (fun i hi => hk.1 i hi (by obtain ⟨p, hp, he⟩ := List.any_eq_true.1 hi; have := hdone p hp; rwa [show p.1 = i by simpa using he] at this))
      (fun i j hi hj hw => hk.2 i j hi hj (by obtain ⟨p, hp, he⟩ := List.any_eq_true.1 hj; have := hdone p hp; rwa [show p.1 = j by simpa using he] at this) hw))
    m (Array.replicate l.toArray.size false) a (fun _ => undef) (fun _ => 0) (fun _ => 0) { w with drawn := w.drawn + 1 } (by simp) (fun i o _ hi => by rw [getD_replicate_false] at hi; cases hi) hA ⟨below_drew (Below.refl _ _)⟩
    ⟨fun i _ hi => (by rw [getD_replicate_false] at hi; cases hi), fun i j _ _ hj _ => (by rw [getD_replicate_false] at hj; cases hj)⟩
  rw [hput0] at hS
  rwa [show (l.drop m).length + m = l.toArray.size by omega] at hS
/-- No makers. -/
def noMakers : Makers := ⟨[], fun _ _ _ _ _ => True, fun _ _ _ _ _ _ _ _ => trivial⟩
theorem wp_region_tail {id : Nat} {Q : Exit → Act → World → Prop} {a : Act} {w : World} {l : List Oper} (m : Nat) (hm : P.follows .mixedOrders = true) (hB : planB .any l.toArray m (l.drop m).length [] = true)
    (h : LexP P l.toArray w noMakers (fun a' => ∀ W, Up w W → wpList P l.toArray Q (l.drop m) a' W) 0 (l.take m) a) : (Code.region id l.toArray true).wp P Q a w := by
  refine wp_region_plan m noMakers hm List.Pairwise.nil hB rfl ?_
  have mono : ∀ (r : List Oper) (k : Nat) (a : Act) (K K' : Act → Prop), (∀ a, K a → K' a) → LexP P l.toArray w noMakers K k r a → LexP P l.toArray w noMakers K' k r a := by
    intro r
    induction r with
    | nil => intro k a K K' hK h; exact hK _ h
    | cons o r ih => intro k a K K' hK h; obtain ⟨v, h1, h2⟩ := h; exact ⟨v, h1, ih _ _ _ _ hK h2⟩
  exact mono _ _ _ _ _ (fun a' h u lo hi W hW _ _ => h W hW) h
section
variable {w0 : World} {M : Makers} {K : Act → Prop}
theorem lexP_nil {k : Nat} {a : Act} (h : K a) : LexP P ops w0 M K k [] a := h
theorem lexP_do {k : Nat} {o : Oper} {r : List Oper} {a : Act} (v : Value) (hk : M.has k = false) (hw : Region.wanted o (yielded ops a.tmps) = true) (hr : ∀ W, Up w0 W → UponB P (fun u _ => u = v) W ((execOp a.eval o).run P W)) (h : LexP P ops w0 M K (k + 1) r (a.put o.dst v)) : LexP P ops w0 M K k (o :: r) a :=
  ⟨v, by unfold Plan; rw [hk]; exact .inl ⟨hw, hr⟩, h⟩
theorem lexP_norm {k : Nat} {r : List Oper} {a : Act} (h : ∀ L : Act → Prop, (∀ a', LexP P ops w0 M K k r a' → L a') → L a) : LexP P ops w0 M K k r a := h _ fun _ h => h
end
end
end Go.Proofs.YtbccaabaplbmhaaGreatDoor.Grow
set_option linter.unusedVariables false
namespace Go.Proofs.YtbccaabaplbmhaaGreatDoor.Grow
open Go.RowKit Go.Proofs.YtbccaabaplbmhaaGreatDoorW.PrintWords Go.Proofs.YtbccaabaplbmhaaGreatDoor.B
section
variable {P : Program} {ops : Array Oper} {md : Region.Mode}
/-- All makers' slots filled. -/
def fillM (ml : List (Nat × Tmp)) (u : Nat → Value) (a : Act) : Act := ml.foldl (fun a p => a.put (some p.2) (u p.1)) a
theorem fillM_put {u : Nat → Value} {d : Option Tmp} {v : Value} : ∀ (ml : List (Nat × Tmp)) (a : Act), (∀ p ∈ ml, some p.2 ≠ d) → fillM ml u (a.put d v) = (fillM ml u a).put d v
  | [], a, _ => rfl
  | p :: ml, a, h => by
    show fillM ml u ((a.put d v).put (some p.2) (u p.1)) = (fillM ml u (a.put (some p.2) (u p.1))).put d v
    rw [← fillM_put ml _ (fun q hq => h q (List.mem_cons_of_mem _ hq))]
    congr 1
    exact Act.put_comm a v (u p.1) (fun d' hd' heq => h p List.mem_cons_self (by rw [hd', heq]))
theorem fillM_over {u : Nat → Value} {d : Tmp} {v : Value} : ∀ (ml : List (Nat × Tmp)) (a : Act), (∃ p ∈ ml, p.2 = d) → fillM ml u (a.put (some d) v) = fillM ml u a
  | [], a, h => by obtain ⟨p, hp, _⟩ := h; cases hp
  | p :: ml, a, h => by
    show fillM ml u ((a.put (some d) v).put (some p.2) (u p.1)) = fillM ml u (a.put (some p.2) (u p.1))
    by_cases e : p.2 = d
    · rw [e, put_put]
    · rw [Act.put_comm a v (u p.1) (fun d' hd' heq => by injection hd' with hd'; injection heq with heq; exact e (heq.trans hd'.symm))]
      exact fillM_over ml _ (by obtain ⟨q, hq, he⟩ := h; rcases List.mem_cons.1 hq with rfl | hq; exact absurd he e; exact ⟨q, hq, he⟩)
theorem fillM_exec {u : Nat → Value} {o : Oper} (hsel : ∀ cs b, o.op ≠ .select cs b) (ml : List (Nat × Tmp)) (a : Act) (d : Option Tmp) (v : Value) (h : ∀ d', d = some d' → d' ∉ o.looksAt ops) : execOp (fillM ml u (a.put d v)).eval o = execOp (fillM ml u a).eval o := by
  cases d with
  | none => rfl
  | some d =>
    by_cases hp : ∃ p ∈ ml, p.2 = d
    · rw [fillM_over ml a hp]
    · rw [fillM_put ml a (fun p hpm he => hp ⟨p, hpm, by injection he⟩)]
      exact execOp_put o hsel _ (some d) v h
def DepsKnown (md : Region.Mode) (ops : Array Oper) (M : Makers) (i : Nat) (u : Nat → Value) (lo hi : Nat → Nat) (W : World) : Prop := ∀ j, M.has j = true → waits md ops j i = true → M.G j (u j) (lo j) (hi j) W
def PlanD (P : Program) (md : Region.Mode) (ops : Array Oper) (w0 : World) (M : Makers) (i : Nat) (o : Oper) (v : Value) (a : Act) : Prop :=
  if M.has i then v = undef ∧ Region.wanted o (yielded ops a.tmps) = true ∧ ∀ u lo hi W, Up w0 W → DepsKnown md ops M i u lo hi W → UponB P (fun v W' => M.G i v W.heap.size W'.heap.size W') W ((execOp (fillM M.ml u a).eval o).run P W) else GivesB P ops w0 (fun _ u _ => u = v) o a
theorem PlanD.put {w0 : World} {M : Makers} {i : Nat} {o : Oper} {v : Value} {a : Act} {d : Option Tmp} {x : Value} (hsel : ∀ cs b, o.op ≠ .select cs b) (hd : ∀ d', d = some d' → d' ∉ o.looksAt ops) : PlanD P md ops w0 M i o v (a.put d x) ↔ PlanD P md ops w0 M i o v a := by
  unfold PlanD GivesB
  rw [wanted_put o a d x hd, execOp_put o hsel a d x hd]
  simp only [fillM_exec hsel M.ml a d x hd]
section
variable {w0 : World} {M : Makers} {K : Act → Prop}
end
end
end Go.Proofs.YtbccaabaplbmhaaGreatDoor.Grow
set_option linter.unusedVariables false
namespace Go.Proofs.YtbccaabaplbmhaaGreatDoor.GrowK
open Go.RowKit Go.Proofs.YtbccaabaplbmhaaGreatDoorW.PrintWords Go.Proofs.YtbccaabaplbmhaaGreatDoor.B Go.Proofs.YtbccaabaplbmhaaGreatDoor.Grow
section
variable {P : Program} {ops : Array Oper} {md : Region.Mode}
/-- Memory has grown: what was there at w0 is as it was; what the region made keeps its cells and its type. -/
def Kp (w0 W W' : World) : Prop := Below w0.heap.size W W' ∧ (∀ a v, W.cell? a = some v → W'.cell? a = some v) ∧ ∀ (b : Nat) (cs : Array Value) (T : TypeId) (fr : Nat × Nat), W.heap[b]? = some (Obj.cells cs T fr) → ∃ fr', W'.heap[b]? = some (Obj.cells cs T fr')
theorem Kp.refl (w0 W : World) : Kp w0 W W := ⟨Below.refl _ _, fun _ _ h => h, fun _ _ _ fr h => ⟨fr, h⟩⟩
theorem Kp.of {w0 W W' : World} (hs : w0.heap.size ≤ W.heap.size) (h : Below W.heap.size W W') : Kp w0 W W' := ⟨h.mono hs, fun _ _ hc => pw_cell_below h hc, fun _ _ _ fr hb => ⟨fr, blk_below hb h⟩⟩
/-- The operation comes to a value of which R tells, and only makes memory, or marks what the region made. -/
def UponK (P : Program) (w0 : World) (R : Value → World → Prop) (W : World) : Result Next → Prop
  | .ok (.value u) w => R u w ∧ Kp w0 W w
  | .ok .skip w => R undef w ∧ Kp w0 W w
  | .ok (.enter f args) w => Calls P f args w fun e w' => ∃ v, e = .returned v ∧ R v w' ∧ Kp w0 W w'
  | _ => False
theorem UponK.val {w0 : World} {v : Value} {w : World} : UponK P w0 (fun u _ => u = v) w (.ok (.value v) w) := ⟨rfl, Kp.refl _ _⟩
theorem UponK.call {w0 : World} {v : Value} {w : World} {f : FuncId} {args : Array Value} (hj : Up w0 w) (h : Calls P f args w fun e w' => e = .returned v ∧ Below w.heap.size w w') : UponK P w0 (fun u _ => u = v) w (.ok (.enter f args) w) :=
  h.mono fun _ _ h => ⟨_, h.1, rfl, Kp.of hj.out.size h.2⟩
theorem UponK.made {w0 : World} {R : Value → World → Prop} {w : World} {f : FuncId} {args : Array Value} (hj : Up w0 w) (h : Calls P f args w fun e w' => ∃ v, e = .returned v ∧ R v w' ∧ Below w.heap.size w w') : UponK P w0 R w (.ok (.enter f args) w) :=
  h.mono fun _ _ ⟨v, h1, h2, h3⟩ => ⟨v, h1, h2, Kp.of hj.out.size h3⟩
def GivesB (P : Program) (ops : Array Oper) (w0 : World) (R : World → Value → World → Prop) (o : Oper) (a : Act) : Prop :=
  (Region.wanted o (yielded ops a.tmps) = true ∧ ∀ W, Up w0 W → UponK P w0 (R W) W ((execOp a.eval o).run P W)) ∨ (Region.wanted o (yielded ops a.tmps) = false ∧ ∀ W, R W undef W)
/-- What a region makes: the makers (place in the text, slot) and what is told of each. -/
structure Makers (w0 : World) where
  ml : List (Nat × Tmp)
  G : Nat → Value → Nat → Nat → World → Prop
  stays : ∀ i v lo hi W W', Kp w0 W W' → G i v lo hi W → G i v lo hi W'
def Makers.has {w0 : World} (M : Makers w0) (i : Nat) : Bool := M.ml.any fun p => p.1 == i
/-- What is known of the makers that have run. -/
def Known (md : Region.Mode) (ops : Array Oper) (w0 : World) (M : Makers w0) (l : Array Bool) (u : Nat → Value) (lo hi : Nat → Nat) (W : World) : Prop :=
  (∀ i, M.has i = true → l.getD i false = true → M.G i (u i) (lo i) (hi i) W ∧ w0.heap.size ≤ lo i ∧ lo i ≤ hi i ∧ hi i ≤ W.heap.size) ∧
  ∀ i j, M.has i = true → M.has j = true → l.getD j false = true → waits md ops i j = true → hi i ≤ lo j
theorem Known.grow {w0 : World} {M : Makers w0} {l : Array Bool} {u : Nat → Value} {lo hi : Nat → Nat} {W W' : World} {j : Nat} (h : Known md ops w0 M l u lo hi W) (hb : Kp w0 W W') (hj : M.has j = false) : Known md ops w0 M (l.setIfInBounds j true) u lo hi W' := by
  have hne : ∀ i, M.has i = true → j ≠ i := fun i h1 h2 => by rw [h2, h1] at hj; cases hj
  refine ⟨fun i h1 h2 => ?_, fun i k h1 h2 h3 h4 => ?_⟩
  · rw [getD_set_ne false (hne i h1)] at h2
    obtain ⟨a, b, c, d⟩ := h.1 i h1 h2
    exact ⟨M.stays _ _ _ _ _ _ hb a, b, c, Nat.le_trans d hb.1.size⟩
  · rw [getD_set_ne false (hne k h2)] at h3
    exact h.2 i k h1 h2 h3 h4
theorem Known.make {w0 : World} {M : Makers w0} {l : Array Bool} {u : Nat → Value} {lo hi : Nat → Nat} {W W' : World} {j : Nat} {x : Value} (h : Known md ops w0 M l u lo hi W) (hw : Up w0 W) (hb : Kp w0 W W') (hl : l.getD j false = false) (hs : Grow.Shut md ops l) (hr : j ∈ Region.ready md ops l) (hG : M.G j x W.heap.size W'.heap.size W') :
    Known md ops w0 M (l.setIfInBounds j true) (fun k => if k = j then x else u k) (fun k => if k = j then W.heap.size else lo k) (fun k => if k = j then W'.heap.size else hi k) W' := by
  refine ⟨fun i h1 h2 => ?_, fun i k h1 h2 h3 h4 => ?_⟩
  · by_cases e : i = j
    · subst e
      simp only [if_true]
      exact ⟨hG, hw.out.size, hb.1.size, Nat.le_refl _⟩
    · simp only [if_neg e]
      rw [getD_set_ne false (Ne.symm e)] at h2
      obtain ⟨a, b, c, d⟩ := h.1 i h1 h2
      exact ⟨M.stays _ _ _ _ _ _ hb a, b, c, Nat.le_trans d hb.1.size⟩
  · obtain ⟨o, ho, e, he, hon, hbi⟩ := waits_spec h4
    by_cases ek : k = j
    · subst ek
      obtain ⟨_, o', ho', hall⟩ := mem_ready.1 hr
      rw [ho] at ho'; injection ho' with ho'; subst ho'
      have hli := hall e he hbi
      rw [hon] at hli
      have ne : i ≠ k := fun h => by rw [h, hl] at hli; cases hli
      simp only [if_neg ne, if_true]
      exact (h.1 i h1 hli).2.2.2
    · rw [getD_set_ne false (Ne.symm ek)] at h3
      have hli := hs k o ho h3 e he hbi
      rw [hon] at hli
      have ne : i ≠ j := fun h => by rw [h, hl] at hli; cases hli
      simp only [if_neg ne, if_neg ek]
      exact h.2 i k h1 h2 h3 h4
theorem wp_of_upon {w0 : World} {o : Oper} {a : Act} {R : Value → World → Prop} {K : Act → World → Prop} {Q : Exit → Act → World → Prop} {W : World} {r : Result Next} (hr : (execOp a.eval o).run P W = r) (h : UponK P w0 R W r) (hK : ∀ x W', R x W' → Kp w0 W W' → K (a.put o.dst x) W') : o.wp P a W K Q := by
  unfold Oper.wp
  rw [hr]
  cases r with
  | ok x w' =>
    cases x <;> simp only [UponK] at h <;> simp only [Oper.upon]
    case value u => exact hK _ _ h.1 h.2
    case skip => exact hK _ _ h.1 h.2
    case enter f args => exact h.mono fun e w'' ⟨v, he, h1, h2⟩ => by subst he; exact hK _ _ h1 h2
  | halt x w' => simp only [UponK] at h
def DepsKnown {w0 : World} (md : Region.Mode) (ops : Array Oper) (M : Makers w0) (i : Nat) (u : Nat → Value) (lo hi : Nat → Nat) (W : World) : Prop := ∀ j, M.has j = true → waits md ops j i = true → M.G j (u j) (lo j) (hi j) W
def PlanD (P : Program) (md : Region.Mode) (ops : Array Oper) (w0 : World) (M : Makers w0) (i : Nat) (o : Oper) (v : Value) (a : Act) : Prop :=
  if M.has i then v = undef ∧ Region.wanted o (yielded ops a.tmps) = true ∧ ∀ u lo hi W, Up w0 W → DepsKnown md ops M i u lo hi W → UponK P w0 (fun v W' => M.G i v W.heap.size W'.heap.size W') W ((execOp (fillM M.ml u a).eval o).run P W) else GivesB P ops w0 (fun _ u _ => u = v) o a
theorem PlanD.put {w0 : World} {M : Makers w0} {i : Nat} {o : Oper} {v : Value} {a : Act} {d : Option Tmp} {x : Value} (hsel : ∀ cs b, o.op ≠ .select cs b) (hd : ∀ d', d = some d' → d' ∉ o.looksAt ops) : PlanD P md ops w0 M i o v (a.put d x) ↔ PlanD P md ops w0 M i o v a := by
  unfold PlanD GivesB
  rw [wanted_put o a d x hd, execOp_put o hsel a d x hd]
  simp only [fillM_exec hsel M.ml a d x hd]
section
variable {w0 : World} {M : Makers w0} {K : Act → Prop}
end
end
/-- What is told of the makers of a region, place by place. -/
def GAt (l : List (Nat × (Value → Nat → World → Prop))) (i : Nat) (v : Value) (lo : Nat) (W : World) : Prop := ∀ P, (i, P) ∈ l → P v lo W
def Stays (w0 : World) (P : Value → Nat → World → Prop) : Prop := ∀ v lo W W', Kp w0 W W' → P v lo W → P v lo W'
def AllStay (w0 : World) : List (Nat × (Value → Nat → World → Prop)) → Prop
  | [] => True
  | p :: t => Stays w0 p.2 ∧ AllStay w0 t
theorem AllStay.at {w0 : World} : ∀ {l : List (Nat × (Value → Nat → World → Prop))}, AllStay w0 l → ∀ p, p ∈ l → Stays w0 p.2
  | _ :: _, h, p, hp => by
    rcases List.mem_cons.1 hp with rfl | hp
    · exact h.1
    · exact AllStay.at h.2 p hp
theorem GAt.stays {w0 : World} {l : List (Nat × (Value → Nat → World → Prop))} (hl : AllStay w0 l) (i : Nat) (v : Value) (lo hi : Nat) (W W' : World) (hb : Kp w0 W W') (h : GAt l i v lo W) : GAt l i v lo W' := fun P hP => hl.at _ hP v lo W W' hb (h P hP)
theorem GAt.at {l : List (Nat × (Value → Nat → World → Prop))} {i : Nat} {v : Value} {lo : Nat} {W : World} (h : GAt l i v lo W) {P : Value → Nat → World → Prop} (hP : (i, P) ∈ l) : P v lo W := h P hP
theorem GAt.mk {l : List (Nat × (Value → Nat → World → Prop))} {i : Nat} {v : Value} {lo : Nat} {W : World} {P : Value → Nat → World → Prop} (h : P v lo W) (hl : ∀ p, p ∈ l → p.1 = i → p.2 = P) : GAt l i v lo W := fun P' hP' => by rw [show P' = P from hl (i, P') hP' rfl]; exact h
end Go.Proofs.YtbccaabaplbmhaaGreatDoor.GrowK
namespace Go.Proofs.YtbccaabaplbmhaaGreatDoor.B
open Go.RowKit Go.Proofs.YtbccaabaplbmhaaGreatDoorW.PrintWords
set_option linter.unusedVariables false
theorem reps_append {α : Type} {R : α → List Value → Prop} {n : Nat} {xs ys : List α} {a b : List Value} (ha : Reps R n xs a) (hb : Reps R n ys b) : Reps R n (xs ++ ys) (a ++ b) := by
  refine ⟨by rw [List.length_append, ha.1, hb.1, List.length_append, Nat.add_mul], fun j q hq => ?_⟩
  rcases Nat.lt_or_ge j xs.length with hj | hj
  · rw [List.getElem?_append_left hj] at hq
    have h1 : j * n + n ≤ a.length := by rw [ha.1, ← Nat.succ_mul]; exact Nat.mul_le_mul_right _ hj
    have h2 := ha.2 j q hq
    rw [List.drop_append_of_le_length (by omega), List.take_append_of_le_length (by rw [List.length_drop]; omega)]
    exact h2
  · rw [List.getElem?_append_right hj] at hq
    have h2 := hb.2 (j - xs.length) q hq
    have e : j * n = a.length + (j - xs.length) * n := by rw [ha.1, ← Nat.add_mul]; congr 1; omega
    rw [e, List.drop_append, List.drop_of_length_le (by omega), List.nil_append, Nat.add_sub_cancel_left]
    exact h2
theorem reps_flat {α : Type} {n : Nat} {enc : α → List Value} (hn : ∀ x, (enc x).length = n) : ∀ ys : List α, Reps (fun p c => c = enc p) n ys (ys.flatMap enc)
  | [] => Reps.none _ _
  | p :: t => by
    have h1 : Reps (fun p c => c = enc p) n [p] (enc p) := ⟨by rw [hn]; simp, fun j q hq => by
      rcases j with _ | j
      · simp only [List.getElem?_cons_zero, Option.some.injEq] at hq
        subst hq
        rw [Nat.zero_mul, List.drop_zero, ← hn p, List.take_length]
      · simp at hq⟩
    exact reps_append h1 (reps_flat hn t)
theorem flat_get {α : Type} {n : Nat} {enc : α → List Value} (hn : ∀ x, (enc x).length = n) (h0 : 0 < n) {ys : List α} {j : Nat} {u : Value} (h : (ys.flatMap enc)[j]? = some u) : ∃ p, ys[j / n]? = some p ∧ (enc p)[j % n]? = some u := by
  have hr := reps_flat hn ys
  have hj : j < ys.length * n := by rw [← hr.1]; exact (List.getElem?_eq_some_iff.1 h).1
  have hq : j / n < ys.length := (Nat.div_lt_iff_lt_mul h0).2 hj
  refine ⟨ys[j / n], List.getElem?_eq_getElem hq, ?_⟩
  have h2 := hr.2 (j / n) _ (List.getElem?_eq_getElem hq)
  rw [← h2, List.getElem?_take_of_lt (Nat.mod_lt _ h0), List.getElem?_drop, Nat.mul_comm, Nat.div_add_mod]
  exact h
namespace Kd
open Go.Proofs.YtbccaabaplbmhaaGreatDoorW.PrintWords.Kd
section
variable {P : Program} {ops : Array Oper} {rest : List Oper} {o : Oper} {a : Act} {Q : Exit → Act → World → Prop} {α : Type} {n : Nat} {enc : α → List Value} {hn : ∀ x, (enc x).length = n} {h1 : ∀ x, ∀ u ∈ enc x, u.oneCell' = true}
theorem flat_append_run (d : Kd α) (hdd : d = flat n enc hn h1) {w0 W : World} (base : Nat) (t e : TypeId) (z0 : α) (bytes : Nat)
    (ty : TypeId)
    (ht : P.underlying t = some (.slice e)) (hinfo : (P.info? e).map (fun i => (i.zero.map (·.cells.toList), i.size, i.bytes)) = some (some (enc z0), n, bytes)) (h0 : 0 < n) (hb0 : 0 < bytes)
    (v : Value) (xs ys : List α) (A : Option Addr) (m c : Nat) 
    (HO : d.R e W base (fun _ => True) v xs) (HR : d.C W A m ys) (HB : Below base w0 W) (hbase : base ≤ W.heap.size) (hl : (xs.length + m) * bytes ≤ 140737488355328) :
    ∃ v1 w1, (Builtin.append_ #[t, t] ty #[v, .slice A m c]).run P W = .ok v1 w1 ∧ d.R e w1 base (fun _ => True) v1 (xs ++ ys) ∧ Below base w0 w1 ∧ W.grownBy w1 v.ownBlock ∧ (v1.ownBlock = v.ownBlock ∨ ∃ b, v1.ownBlock = some b ∧ W.heap.size ≤ b) := by
  subst hdd
  obtain ⟨i0, hi, hzz⟩ := Option.map_eq_some_iff.1 hinfo
  simp only [Prod.mk.injEq] at hzz
  obtain ⟨hz0, hz1, hz2⟩ := hzz
  obtain ⟨z, hz3, hz4⟩ := Option.map_eq_some_iff.1 hz0
  have hm : ys.length = m := HR.1
  have hlen : xs.length + m ≤ 140737488355328 := Nat.le_trans (Nat.le_mul_of_pos_right _ hb0) hl
  obtain ⟨_, inner, HW, HQ⟩ := HO
  have HW' : W.ownsRow base e n v xs.length inner := HW
  have HQ' : Reps (fun p c => c = enc p) n xs inner := HQ
  have hrun : ∃ v1 w1, (Builtin.append_ #[t, t] ty #[v, .slice A m c]).run P W = .ok v1 w1 ∧ w1.ownsRow base e n v1 (xs ++ ys).length (inner ++ ys.flatMap enc) ∧ W.grownBy w1 v.ownBlock ∧ (v1.ownBlock = v.ownBlock ∨ v1.ownBlock = some W.heap.size) := by
    rcases A with _ | ad
    · have h00 : m = 0 := by
        rcases Nat.eq_zero_or_pos m with h0 | h0
        · exact h0
        · obtain ⟨ad, h, _⟩ := HR.2.2 h0
          cases h
      subst h00
      obtain rfl : ys = [] := List.eq_nil_of_length_eq_zero hm
      refine ⟨v, W, ?_, by simpa using HW', World.grownBy.refl W _, .inl rfl⟩
      rcases HW'.2 with ⟨rfl, hn⟩ | ⟨g, cap, cur, rfl, _, _, hnc, _⟩
      · simp [Builtin.append_, run_underlying ht, sizeOf, typeInfo, hi, Builtin.lenOf, Builtin.firstCells]
      · simp [Builtin.append_, run_underlying ht, sizeOf, typeInfo, hi, Builtin.lenOf, Builtin.firstCells, hnc, storeCells]
    · have hcells : ∀ j u, (ys.flatMap enc)[j]? = some u → W.cell? (ad.add j) = some u := by
        intro j u hu
        obtain ⟨p, hp, hpu⟩ := flat_get hn h0 hu
        have hpos : 0 < m := by
          rw [← hm]
          exact Nat.lt_of_le_of_lt (Nat.zero_le _) (List.getElem?_eq_some_iff.1 hp).1
        obtain ⟨ad', h', hc⟩ := HR.2.2 hpos
        injection h' with h'
        subst h'
        obtain ⟨c0, _, hc1, hc2⟩ := hc (j / n) p hp
        have hc1' : c0 = enc p := hc1
        subst hc1'
        have := hc2 (j % n) u hpu
        rwa [show j / n * (flat n enc hn h1).sz + j % n = j from by show j / n * n + j % n = j; rw [Nat.mul_comm, Nat.div_add_mod]] at this
      obtain ⟨v1, w1, hr, h2, h3, _, h5⟩ := run_append_own_at (P := P) W base t ty e i0 z n bytes ht hi hz3 hz1 hz2 (by rw [← Array.length_toList, hz4]; exact hn z0) h0 v xs.length inner HW' ad m c (ys.flatMap enc) (by rw [(reps_flat hn ys).1, hm]) hcells
        (by intro u hu; obtain ⟨q, _, hq⟩ := List.mem_flatMap.1 hu; exact h1 q u hq) (by simp only [maxLen]; omega) hl hbase
      exact ⟨v1, w1, hr, by rw [List.length_append, hm]; exact h2, h3, h5⟩
  obtain ⟨v1, w1, hr, hown, hg, hat⟩ := hrun
  refine ⟨v1, w1, hr, ⟨fun _ _ => trivial, _, hown, reps_append HQ' (reps_flat hn ys)⟩, HB.grown hg hbase (own_base HW'), hg, ?_⟩
  rcases hat with hat | hat
  · exact .inl hat
  · exact .inr ⟨_, hat, Nat.le_refl _⟩
/-- append(out, row...). -/
theorem flat_append_row (d : Kd α) (hdd : d = flat n enc hn h1) {w0 W : World} (base : Nat) (hgd : o.guard = none) (s x : Operand) (t e : TypeId) (z0 : α) (bytes : Nat)
    (ho : o.op = .call { callee := .builtin .append, args := #[s, x], argTypes := #[t, t] })
    (ht : P.underlying t = some (.slice e)) (hinfo : (P.info? e).map (fun i => (i.zero.map (·.cells.toList), i.size, i.bytes)) = some (some (enc z0), n, bytes)) (h0 : 0 < n) (hb0 : 0 < bytes)
    (v : Value) (xs ys : List α) (A : Option Addr) (m c : Nat) (hs : a.eval s = v) (hx : a.eval x = .slice A m c)
    (HO : d.R e W base (fun _ => True) v xs) (HR : d.C W A m ys) (HB : Below base w0 W) (hbase : base ≤ W.heap.size) (hl : (xs.length + m) * bytes ≤ 140737488355328)
    (h : ∀ v1 w1, d.R e w1 base (fun _ => True) v1 (xs ++ ys) → Below base w0 w1 → W.grownBy w1 v.ownBlock → (v1.ownBlock = v.ownBlock ∨ ∃ b, v1.ownBlock = some b ∧ W.heap.size ≤ b) → wpList P ops Q rest (a.put o.dst v1) w1) :
    wpList P ops Q (o :: rest) a W := by
  obtain ⟨v1, w1, hr, hR, hB, hg, hat⟩ := flat_append_run (P := P) d hdd (w0 := w0) (W := W) base t e z0 bytes o.type ht hinfo h0 hb0 v xs ys A m c HO HR HB hbase hl
  refine wpList_plain hgd fun K hK => ?_
  unfold Oper.wp execOp
  simp only [ho, resolve, invoke, builtin, Sem.run_bind, Sem.run_pure, Result.andThen_ok, List.map_toArray, List.map_cons, List.map_nil, hs, hx, hr]
  exact hK _ _ (h v1 w1 hR hB hg hat)
end
end Kd
end Go.Proofs.YtbccaabaplbmhaaGreatDoor.B
set_option linter.unusedVariables false
namespace Go.Proofs.YtbccaabaplbmhaaGreatDoor.Grow
section
variable {P : Program} {ops : Array Oper} {md : Region.Mode}
/-- Every edge that binds leads back in the text. -/
def backB (md : Region.Mode) (ops : Array Oper) : Bool := (List.range ops.size).all fun i => match ops[i]? with | some o => o.after.all fun e => !Region.binds md e || decide (e.on < i) | none => true
theorem backB_spec (h : backB md ops = true) {i : Nat} {o : Oper} (ho : ops[i]? = some o) {e : Edge} (he : e ∈ o.after) (hb : Region.binds md e = true) : e.on < i := by
  have hi : i < ops.size := (Array.getElem?_eq_some_iff.1 ho).1
  have := List.all_eq_true.1 h i (List.mem_range.2 hi)
  rw [ho] at this
  have := Array.all_eq_true'.1 this e he
  simp only [hb, Bool.not_true, Bool.false_or, decide_eq_true_eq] at this
  exact this
theorem all_listed {l : Array Bool} (hs : l.size = ops.size) (hb : backB md ops = true) (h : Region.ready md ops l = []) : ∀ i, i < ops.size → l.getD i false = true := by
  intro i
  induction i using Nat.strongRecOn with
  | _ i ih =>
    intro hi
    cases hl : l.getD i false with
    | true => rfl
    | false =>
      have ho : ops[i]? = some ops[i] := Array.getElem?_eq_getElem hi
      have : i ∈ Region.ready md ops l := mem_ready.2 ⟨by simp [hs, hi] at hl ⊢; exact hl, ops[i], ho, fun e he hbe => ih e.on (backB_spec hb ho he hbe) (by have := backB_spec hb ho he hbe; omega)⟩
      rw [h] at this; cases this
/-- One operation keeps I. -/
def Step (P : Program) (ops : Array Oper) (md : Region.Mode) (I : (Nat → Bool) → Act → World → Prop) (Q : Exit → Act → World → Prop) (i : Nat) (o : Oper) : Prop :=
  ∀ (p : Nat → Bool) (a : Act) (w : World), (∀ e ∈ o.after, Region.binds md e = true → p e.on = true) → p i = false → I p a w → o.wp P a w (fun a' w' => I (fun j => p j || j == i) a' w') Q
def Steps (P : Program) (ops : Array Oper) (md : Region.Mode) (I : (Nat → Bool) → Act → World → Prop) (Q : Exit → Act → World → Prop) : Nat → List Oper → Prop
  | _, [] => True
  | i, o :: r => Step P ops md I Q i o ∧ Steps P ops md I Q (i + 1) r
theorem Steps.at {I : (Nat → Bool) → Act → World → Prop} {Q : Exit → Act → World → Prop} : ∀ (l : List Oper) (k : Nat), Steps P ops md I Q k l → ∀ (j : Nat) (o : Oper), l[j]? = some o → Step P ops md I Q (k + j) o
  | [], _, _, j, o, h => by simp at h
  | x :: l, k, hs, 0, o, h => by
    simp at h; subst h
    exact hs.1
  | x :: l, k, hs, j + 1, o, h => by
    have := Steps.at l (k + 1) hs.2 j o (by simpa using h)
    rwa [show k + 1 + j = k + (j + 1) by omega] at this
theorem any_inv {I : (Nat → Bool) → Act → World → Prop} {Q : Exit → Act → World → Prop} (hg : ops.toList.all (fun o => o.guard.isNone) = true) (hb : backB md ops = true) (hstep : Steps P ops md I Q 0 ops.toList)
    (hend : ∀ p a w, (∀ i, i < ops.size → p i = true) → I p a w → Q .normal a w) :
    ∀ (n : Nat) (l : Array Bool) (a : Act) (w : World), l.size = ops.size → l.toList.count false ≤ n → I (fun j => l.getD j false) a w → wpAny P md ops Q n l a w
  | 0, l, a, w, hs, hc, hI => by
    have hall : ∀ i, i < ops.size → l.getD i false = true := fun i hi => by
      cases hl : l.getD i false with
      | true => rfl
      | false =>
        have hi' : i < l.toList.length := by simp; omega
        have hmem : false ∈ l.toList := by
          have : l.toList[i] = false := by simp [hs, hi] at hl ⊢; exact hl
          exact this ▸ List.getElem_mem hi'
        have := List.count_pos_iff.2 hmem
        omega
    refine ⟨?_, hend _ _ _ hall hI⟩
    cases hr : Region.ready md ops l with
    | nil => rfl
    | cons i r =>
      have hi : i ∈ Region.ready md ops l := by rw [hr]; exact List.mem_cons_self
      obtain ⟨h0, o, ho, _⟩ := mem_ready.1 hi
      have hlt := (Array.getElem?_eq_some_iff.1 ho).1
      have := hall i hlt
      rw [getD_both h0] at this
      cases this
  | n + 1, l, a, w, hs, hc, hI => by
    refine ⟨fun h0 => hend _ _ _ (all_listed hs hb h0) hI, fun i hi => ?_⟩
    obtain ⟨h0, o, ho, hall⟩ := mem_ready.1 hi
    have hlt := (Array.getElem?_eq_some_iff.1 ho).1
    have hst := Steps.at ops.toList 0 hstep i o (by simpa using ho)
    rw [Nat.zero_add] at hst
    have hx := hst _ a w (fun e he hbe => hall e he hbe) (getD_both h0) hI
    have hw : Region.wanted o (yielded ops a.tmps) = true := by
      have h1 := List.all_eq_true.1 hg o (by obtain ⟨h2, h3⟩ := Array.getElem?_eq_some_iff.1 ho; rw [← h3]; simp)
      unfold Region.wanted
      cases hgu : o.guard with
      | none => rfl
      | some g => rw [hgu] at h1; cases h1
    unfold wpOp
    simp only [ho, hw, if_true]
    refine .inl (Oper.wp_mono (fun a' w' hI' => ?_) hx)
    refine any_inv hg hb hstep hend n _ a' w' (by simp [hs]) ?_ ?_
    · have hi' : i < l.toList.length := by simp; omega
      have e : (l.setIfInBounds i true).toList = l.toList.set i true := by simp
      have hf : l.toList[i] = false := by have := getD_both h0; simp [hs, hlt] at this ⊢; exact this
      rw [e, List.count_set hi', hf, if_pos (by rfl), if_neg (by decide)]
      have : 0 < l.toList.count false := List.count_pos_iff.2 (hf ▸ List.getElem_mem hi')
      omega
    · have e : (fun j => (l.setIfInBounds i true).getD j false) = fun j => l.getD j false || j == i := by
        funext j
        by_cases hj : i = j
        · subst hj
          simp [hs, hlt]
        · rw [getD_set_ne false hj]
          simp [Ne.symm hj]
      rw [e]
      exact hI'
theorem wp_region_inv {id : Nat} {Q : Exit → Act → World → Prop} {a : Act} {w : World} {l : List Oper} (I : Act → World → (Nat → Bool) → Act → World → Prop) (hm : P.follows .mixedOrders = true) (hg : l.all (fun o => o.guard.isNone) = true) (hb : backB .any l.toArray = true)
    (hstart : I a w (fun _ => false) a { w with drawn := w.drawn + 1 }) (hstep : Steps P l.toArray .any (I a w) Q 0 l) (hend : ∀ a' w', (∃ p : Nat → Bool, (∀ i, i < l.length → p i = true) ∧ I a w p a' w') → Q .normal a' w') : (Code.region id l.toArray true).wp P Q a w := by
  refine wp_region_any hm (any_inv (I := I a w) (by simpa using hg) hb (by simpa using hstep) (fun p a' w' hp hi => hend a' w' ⟨p, fun i h => hp i (by simpa using h), hi⟩) _ _ _ _ (by simp) (by simp) ?_)
  have e : (fun j => (Array.replicate l.toArray.size false).getD j false) = fun _ => false := by funext j; exact getD_replicate_false _ _
  rw [e]
  exact hstart
end
end Go.Proofs.YtbccaabaplbmhaaGreatDoor.Grow
