/- As G3, but a maker may lean on makers that it waits for: what is told of them is at hand when it runs. A drawn region with makers, as in G4, where an operation may also mark a block of the region's own (a constant turned to bytes). Rows of rows of bytes; the fields of a place, as the reference tells them. -/
import Derived.Test.YtogjkkbhmanbmaaGreatDoorQP3
set_option linter.unusedVariables false
namespace Go.Proofs.YtogjkkbhmanbmaaGreatDoor.Grow
open Go.RowKit Go.Proofs.YtogjkkbhmanbmaaGreatDoorW.PrintWords Go.Proofs.YtogjkkbhmanbmaaGreatDoor.B
section
variable {P : Program} {ops : Array Oper} {md : Region.Mode}
/-- All makers' slots filled. -/
def fillM (ml : List (Nat × Tmp)) (u : Nat → Value) (a : Act) : Act := ml.foldl (fun a p => a.put (some p.2) (u p.1)) a
theorem fillM_put {u : Nat → Value} {d : Option Tmp} {v : Value} : ∀ (ml : List (Nat × Tmp)) (a : Act), (∀ p ∈ ml, some p.2 ≠ d) → fillM ml u (a.put d v) = (fillM ml u a).put d v
  | [], a, _ => rfl
  | p :: ml, a, h => by
    show fillM ml u ((a.put d v).put (some p.2) (u p.1)) = (fillM ml u (a.put (some p.2) (u p.1))).put d v
    rw [← fillM_put ml _ (fun q hq => h q (List.mem_cons_of_mem _ hq))]
    congr 1
    exact Act.put_comm a v (u p.1) (fun d' hd' heq => h p List.mem_cons_self (by rw [hd', heq]))
theorem fillM_over {u : Nat → Value} {d : Tmp} {v : Value} : ∀ (ml : List (Nat × Tmp)) (a : Act), (∃ p ∈ ml, p.2 = d) → fillM ml u (a.put (some d) v) = fillM ml u a
  | [], a, h => by obtain ⟨p, hp, _⟩ := h; cases hp
  | p :: ml, a, h => by
    show fillM ml u ((a.put (some d) v).put (some p.2) (u p.1)) = fillM ml u (a.put (some p.2) (u p.1))
    by_cases e : p.2 = d
    · rw [e, put_put]
    · rw [Act.put_comm a v (u p.1) (fun d' hd' heq => by injection hd' with hd'; injection heq with heq; exact e (heq.trans hd'.symm))]
      exact fillM_over ml _ (by obtain ⟨q, hq, he⟩ := h; rcases List.mem_cons.1 hq with rfl | hq; exact absurd he e; exact ⟨q, hq, he⟩)
theorem fillM_exec {u : Nat → Value} {o : Oper} (hsel : ∀ cs b, o.op ≠ .select cs b) (ml : List (Nat × Tmp)) (a : Act) (d : Option Tmp) (v : Value) (h : ∀ d', d = some d' → d' ∉ o.looksAt ops) : execOp (fillM ml u (a.put d v)).eval o = execOp (fillM ml u a).eval o := by
  cases d with
  | none => rfl
  | some d =>
    by_cases hp : ∃ p ∈ ml, p.2 = d
    · rw [fillM_over ml a hp]
    · rw [fillM_put ml a (fun p hpm he => hp ⟨p, hpm, by injection he⟩)]
      exact execOp_put o hsel _ (some d) v h
theorem putM_fill {l : Array Bool} {u : Nat → Value} {o : Oper} (hsel : ∀ cs b, o.op ≠ .select cs b) : ∀ (ml : List (Nat × Tmp)) (a : Act), ml.Pairwise (fun p q => p.1 ≠ q.1 ∧ p.2 ≠ q.2) → (∀ p ∈ ml, l.getD p.1 false = false → p.2 ∉ o.looksAt ops) → execOp (putM ml l u a).eval o = execOp (fillM ml u a).eval o
  | [], a, _, _ => rfl
  | p :: ml, a, hp, h => by
    obtain ⟨hp1, hp2⟩ := List.pairwise_cons.1 hp
    have e1 : putM (p :: ml) l u a = putM ml l u (if l.getD p.1 false then a.put (some p.2) (u p.1) else a) := rfl
    have e2 : fillM (p :: ml) u a = fillM ml u (a.put (some p.2) (u p.1)) := rfl
    rw [e1, e2, putM_fill hsel ml _ hp2 (fun q hq => h q (List.mem_cons_of_mem _ hq))]
    split
    · rfl
    · rename_i hl
      exact (fillM_exec hsel ml a (some p.2) (u p.1) (fun d' hd' => by injection hd' with hd'; rw [← hd']; exact h p List.mem_cons_self (by simpa using hl))).symm
theorem UponB.boxR {R : Value → World → Prop} {v : Value} {w : World} {o : Obj} (h : R v (w.alloc o)) : UponB P R w (.ok (.value v) (w.alloc o)) := ⟨h, below_alloc (Below.refl _ _) o⟩
def DepsKnown (md : Region.Mode) (ops : Array Oper) (M : Makers) (i : Nat) (u : Nat → Value) (lo hi : Nat → Nat) (W : World) : Prop := ∀ j, M.has j = true → waits md ops j i = true → M.G j (u j) (lo j) (hi j) W
def PlanD (P : Program) (md : Region.Mode) (ops : Array Oper) (w0 : World) (M : Makers) (i : Nat) (o : Oper) (v : Value) (a : Act) : Prop :=
  if M.has i then v = undef ∧ Region.wanted o (yielded ops a.tmps) = true ∧ ∀ u lo hi W, Up w0 W → DepsKnown md ops M i u lo hi W → UponB P (fun v W' => M.G i v W.heap.size W'.heap.size W') W ((execOp (fillM M.ml u a).eval o).run P W) else GivesB P ops w0 (fun _ u _ => u = v) o a
def LexD (P : Program) (md : Region.Mode) (ops : Array Oper) (w0 : World) (M : Makers) (K : Act → Prop) : Nat → List Oper → Act → Prop
  | _, [], a => K a
  | k, o :: r, a => ∃ v, PlanD P md ops w0 M k o v a ∧ LexD P md ops w0 M K (k + 1) r (a.put o.dst v)
def AnyD (P : Program) (md : Region.Mode) (ops : Array Oper) (w0 : World) (M : Makers) (m : Nat) (K : Array Bool → Act → Prop) : Nat → Array Bool → Act → Prop
  | 0, l, a => K l a
  | n + 1, l, a => Region.ready md ops l ≠ [] ∧ ∀ i ∈ Region.ready md ops l, i < m ∧ ∀ o, ops[i]? = some o → ∃ v, PlanD P md ops w0 M i o v a ∧ AnyD P md ops w0 M m K n (l.setIfInBounds i true) (a.put o.dst v)
theorem PlanD.put {w0 : World} {M : Makers} {i : Nat} {o : Oper} {v : Value} {a : Act} {d : Option Tmp} {x : Value} (hsel : ∀ cs b, o.op ≠ .select cs b) (hd : ∀ d', d = some d' → d' ∉ o.looksAt ops) : PlanD P md ops w0 M i o v (a.put d x) ↔ PlanD P md ops w0 M i o v a := by
  unfold PlanD GivesB
  rw [wanted_put o a d x hd, execOp_put o hsel a d x hd]
  simp only [fillM_exec hsel M.ml a d x hd]
theorem anyD_first {w0 : World} {M : Makers} {K : Array Bool → Act → Prop} {m i : Nat} {oi : Oper} {v : Value} (hi : ops[i]? = some oi) (him : i < m) (hcut : cutB md ops m = true) (hK : ∀ l a, K l a → ∀ j ∈ Region.ready md ops l, m ≤ j) (hsel : ∀ (j : Nat) (o : Oper) cs b, ops[j]? = some o → o.op ≠ .select cs b) :
    ∀ (n : Nat) (l : Array Bool) (a : Act), Shut md ops l →
      (∀ j oj, ops[j]? = some oj → j ≠ i → l.getD j true = false → (∀ e ∈ oj.after, Region.binds md e = true → e.on ≠ i) → oi.apart ops oj = true) →
      i ∈ Region.ready md ops l → PlanD P md ops w0 M i oi v a → AnyD P md ops w0 M m K n (l.setIfInBounds i true) (a.put oi.dst v) → AnyD P md ops w0 M m K (n + 1) l a := by
  intro n
  induction n with
  | zero =>
    intro l a hs _ hr hg H
    refine ⟨fun h => (by rw [h] at hr; cases hr), fun j hj => ⟨cut_spec hcut hs hr him hj, fun o ho => ?_⟩⟩
    by_cases e : j = i
    · subst e
      rw [hi] at ho; injection ho with ho; subst ho
      exact ⟨v, hg, H⟩
    · have h1 := hK _ _ H j (ready_mono hj e)
      have h2 := cut_spec hcut hs hr him hj
      omega
  | succ n ih =>
    intro l a hs hfree hr hg H
    refine ⟨fun h => (by rw [h] at hr; cases hr), fun j hj => ⟨cut_spec hcut hs hr him hj, fun oj hoj => ?_⟩⟩
    by_cases e : j = i
    · subst e
      rw [hi] at hoj; injection hoj with hoj; subst hoj
      exact ⟨v, hg, H⟩
    · obtain ⟨u, hu, hK'⟩ := (H.2 j (ready_mono hj e)).2 oj hoj
      obtain ⟨hjun, oj', hoj', hall⟩ := mem_ready.1 hj
      rw [hoj] at hoj'; injection hoj' with hoj'; subst hoj'
      have hnot : ∀ e ∈ oj.after, Region.binds md e = true → e.on ≠ i := fun e he hb heq => by
        have h1 := hall e he hb
        have h0 := (mem_ready.1 hr).1
        rw [heq] at h1
        rcases Nat.lt_or_ge i l.size with h' | h'
        · simp [h'] at h0 h1; rw [h0] at h1; cases h1
        · simp [Array.getElem?_eq_none h'] at h1
      obtain ⟨h1, h2, h3⟩ := Oper.apart_spec (hfree j oj hoj e hjun hnot)
      refine ⟨u, (PlanD.put (fun cs b => hsel j oj cs b hoj) h1).1 hu, ?_⟩
      refine ih (l.setIfInBounds j true) _ (hs.set hj) (fun k ok hk hki hun hno => hfree k ok hk hki ?_ hno) (ready_mono hr (Ne.symm e)) ((PlanD.put (fun cs b => hsel i oi cs b hi) h3).2 hg) ?_
      · by_cases hjk : j = k
        · subst hjk; exact hjun
        · rw [getD_set_ne true hjk] at hun; exact hun
      · rw [Array.setIfInBounds_comm _ _ e, ← Act.put_comm a v u h2]
        exact hK'
theorem anyD_lex {w0 : World} {M : Makers} {K : Act → Prop} {m : Nat} {L : Array Bool} (hcut : cutB md ops m = true) (hs : Region.noSelect ops = true) (hL : ∀ j ∈ Region.ready md ops L, m ≤ j) : ∀ (l : List Oper) (k : Nat) (b : Array Bool) (a : Act), Shut md ops b → k + l.length = m → (∀ j o, l[j]? = some o → ops[k + j]? = some o) →
    lexTo md ops l.length k b = true → doneTo l.length k b = L → LexD P md ops w0 M K k l a → AnyD P md ops w0 M m (fun l' a' => l' = L ∧ K a') l.length b a
  | [], _, _, _, _, _, _, _, hd, h => ⟨hd, h⟩
  | o :: l, k, b, a, hsh, hm, hl, hB, hd, h => by
    have h0 : ops[k]? = some o := by simpa using hl 0 o rfl
    simp only [List.length_cons, lexTo, Bool.and_eq_true] at hB
    obtain ⟨⟨hr, hf⟩, hB'⟩ := hB
    have hr' : k ∈ Region.ready md ops b := by simpa using hr
    obtain ⟨v, hg, hK⟩ := h
    exact anyD_first (K := fun l' a' => l' = L ∧ K a') h0 (by simp only [List.length_cons] at hm; omega) hcut (fun l' a' h j hj => hL j (h.1 ▸ hj)) (Region.noSelect_spec hs) l.length b a hsh (Region.free_spec h0 hf) hr' hg
      (anyD_lex hcut hs hL l (k + 1) _ _ (hsh.set hr') (by simp only [List.length_cons] at hm; omega) (fun j o hj => by have := hl (j + 1) o (by simpa using hj); simpa [Nat.add_assoc, Nat.add_comm 1 j] using this) hB' hd hK)
def blindD (md : Region.Mode) (ops : Array Oper) (m : Nat) (M : List (Nat × Tmp)) : Bool :=
  (List.range m).all fun i => match ops[i]? with
    | some o => M.all fun p => (!(o.looksAt ops).contains p.2 || (M.any (fun q => q.1 == i) && waits md ops p.1 i)) && (if p.1 == i then o.dst == some p.2 else o.dst != some p.2)
    | none => true
theorem anyD_sound {w0 : World} {M : Makers} {K : Act → Prop} {Q : Exit → Act → World → Prop} {m f : Nat} {L : Array Bool} (hsel : Region.noSelect ops = true) (hbl : blindD md ops m M.ml = true) (hp : M.ml.Pairwise (fun p q => p.1 ≠ q.1 ∧ p.2 ≠ q.2)) (hgu : ∀ i o, ops[i]? = some o → M.has i = true → o.guard = none)
    (hend : ∀ a u lo hi W, K a → Up w0 W → Known md ops w0 M L u lo hi W → wpAny P md ops Q f L (putM M.ml L u a) W) :
    ∀ (n : Nat) (l : Array Bool) (a : Act) (u : Nat → Value) (lo hi : Nat → Nat) (W : World), l.size = ops.size → Shut md ops l →
      AnyD P md ops w0 M m (fun l' a' => l' = L ∧ K a') n l a → Up w0 W → Known md ops w0 M l u lo hi W → wpAny P md ops Q (f + n) l (putM M.ml l u a) W
  | 0, l, a, u, lo, hi, W, _, _, h, hW, hk => by
    obtain ⟨rfl, hK⟩ := h
    exact hend a u lo hi W hK hW hk
  | n + 1, l, a, u, lo, hi, W, hsz, hsh, h, hW, hk => by
    show wpAny P md ops Q ((f + n) + 1) l _ W
    refine ⟨fun h0 => absurd h0 h.1, fun i hi' => ?_⟩
    obtain ⟨him, hpl⟩ := h.2 i hi'
    obtain ⟨h0, o, ho, hall⟩ := mem_ready.1 hi'
    have hil := (Array.getElem?_eq_some_iff.1 ho).1
    obtain ⟨v, hg, hK⟩ := hpl o ho
    have hb1 := List.all_eq_true.1 hbl i (List.mem_range.2 him)
    simp only [ho] at hb1
    have hb2 : ∀ p ∈ M.ml, (p.2 ∉ o.looksAt ops ∨ (M.has i = true ∧ waits md ops p.1 i = true)) ∧ (if p.1 = i then o.dst = some p.2 else o.dst ≠ some p.2) := fun p hp => by
      have := List.all_eq_true.1 hb1 p hp
      rw [Bool.and_eq_true, Bool.or_eq_true, Bool.and_eq_true] at this
      refine ⟨this.1.imp (fun h => by simpa using h) (fun h => h), ?_⟩
      by_cases e : p.1 = i
      · simpa [e] using this.2
      · simpa [e] using this.2
    have hln : l.getD i false = false := getD_both h0
    unfold PlanD at hg
    unfold wpOp
    simp only [ho]
    cases hmk : M.has i with
    | true =>
      rw [hmk] at hg
      obtain ⟨rfl, hw, hv⟩ := hg
      have hnot : ∀ p ∈ M.ml, l.getD p.1 false = false → p.2 ∉ o.looksAt ops := fun p hp hl => by
        rcases (hb2 p hp).1 with h | ⟨_, h⟩
        · exact h
        · obtain ⟨o', ho', e, he, hon, hbi⟩ := waits_spec h
          rw [ho] at ho'; injection ho' with ho'; subst ho'
          have := hall e he hbi
          rw [hon, hl] at this; cases this
      have e1 := putM_fill (l := l) (u := u) (Region.noSelect_spec hsel i o · · ho) M.ml a hp hnot
      have hdeps : DepsKnown md ops M i u lo hi W := fun j hj hwj => by
        obtain ⟨o', ho', e, he, hon, hbi⟩ := waits_spec hwj
        rw [ho] at ho'; injection ho' with ho'; subst ho'
        have := hall e he hbi
        rw [hon] at this
        exact (hk.1 j hj this).1
      obtain ⟨p, hpm, hpi⟩ := List.any_eq_true.1 hmk
      have hpi' : p.1 = i := by simpa using hpi
      have hd : o.dst = some p.2 := by have := (hb2 p hpm).2; rwa [if_pos hpi'] at this
      have next : ∀ x W', M.G i x W.heap.size W'.heap.size W' → Below W.heap.size W W' → wpAny P md ops Q (f + n) (l.setIfInBounds i true) ((putM M.ml l u a).put o.dst x) W' := fun x W' hG hbe => by
        have e := putM_make (u := u) (x := x) hln (by rw [hsz]; exact hil) M.ml a hp (show (i, p.2) ∈ M.ml by rw [← hpi']; exact hpm)
        rw [hd, ← e, ← hd]
        exact anyD_sound hsel hbl hp hgu hend n _ _ _ _ _ _ (by simp [hsz]) (hsh.set hi') hK ⟨bel_call hW.out hbe⟩ (hk.make hW hbe hln hsh hi' hG)
      have hw' : Region.wanted o (yielded ops (putM M.ml l u a).tmps) = true := by
        have hgn := hgu i o ho hmk
        simp only [Region.wanted, hgn]
      rw [if_pos hw']
      refine .inl ?_
      exact wp_of_upon (by rw [e1]) (hv u lo hi W hW hdeps) next
    | false =>
      rw [hmk] at hg
      have hb3 : ∀ p ∈ M.ml, p.2 ∉ o.looksAt ops := fun p hp => by
        rcases (hb2 p hp).1 with h | ⟨h, _⟩
        · exact h
        · rw [hmk] at h; cases h
      obtain ⟨e1, e2⟩ := putM_exec (l := l) (u := u) (Region.noSelect_spec hsel i o · · ho) M.ml a hb3
      rw [e2]
      have hn : ∀ p ∈ M.ml, p.1 ≠ i := fun p hp e => by
        have : M.has i = true := List.any_eq_true.2 ⟨p, hp, by simp [e]⟩
        rw [hmk] at this; cases this
      have next : ∀ x W', x = v → Below W.heap.size W W' → wpAny P md ops Q (f + n) (l.setIfInBounds i true) ((putM M.ml l u a).put o.dst x) W' := fun x W' hx hbe => by
        subst hx
        have e := putM_set (l := l) (u := u) (j := i) (x := u i) M.ml (a.put o.dst x) hn
        have eu : (fun k => if k = i then u i else u k) = u := by funext k; split <;> simp_all
        rw [eu] at e
        rw [← putM_put M.ml a (fun p hp e => by have := (hb2 p hp).2; rw [if_neg (hn p hp)] at this; exact this e.symm), ← e]
        exact anyD_sound hsel hbl hp hgu hend n _ _ _ _ _ _ (by simp [hsz]) (hsh.set hi') hK ⟨bel_call hW.out hbe⟩ (hk.grow hbe hmk)
      rcases hg with ⟨hw, hv⟩ | ⟨hw, hv⟩
      · rw [if_pos hw]
        refine .inl ?_
        exact wp_of_upon (by rw [e1]) (hv W hW) next
      · rw [if_neg (by rw [hw]; decide)]
        exact next _ _ (hv W) (Below.refl _ _)
def planD (md : Region.Mode) (ops : Array Oper) (m f : Nat) (ml : List (Nat × Tmp)) : Bool :=
  Region.noSelect ops && blindD md ops m ml && cutB md ops m && lexTo md ops m 0 (Array.replicate ops.size false) && (Region.ready md ops (doneTo m 0 (Array.replicate ops.size false))).all (fun j => decide (m ≤ j)) && chainB md ops f m (doneTo m 0 (Array.replicate ops.size false)) && (List.range m).all (fun i => !(ml.any fun p => p.1 == i) || match ops[i]? with | some o => o.guard.isNone | none => true) && decide (m + f = ops.size) && (List.range m).all fun j => (doneTo m 0 (Array.replicate ops.size false)).getD j false
theorem wp_region_deps {id : Nat} {Q : Exit → Act → World → Prop} {a : Act} {w : World} {l : List Oper} (m : Nat) (M : Makers) (hm : P.follows .mixedOrders = true) (hp : M.ml.Pairwise (fun p q => p.1 ≠ q.1 ∧ p.2 ≠ q.2)) (hB : planD .any l.toArray m (l.drop m).length M.ml = true) (hml : M.ml.all (fun p => decide (p.1 < m)) = true)
    (h : LexD P .any l.toArray w M (fun a' => ∀ (u : Nat → Value) (lo hi : Nat → Nat) (W : World), Up w W → (∀ i, M.has i = true → M.G i (u i) (lo i) (hi i) W ∧ w.heap.size ≤ lo i ∧ lo i ≤ hi i ∧ hi i ≤ W.heap.size) → (∀ i j, M.has i = true → M.has j = true → waits .any l.toArray i j = true → hi i ≤ lo j) →
      wpList P l.toArray Q (l.drop m) (M.ml.foldl (fun a p => a.put (some p.2) (u p.1)) a') W) 0 (l.take m) a) : (Code.region id l.toArray true).wp P Q a w := by
  unfold planD at hB
  simp only [Bool.and_eq_true, decide_eq_true_eq] at hB
  obtain ⟨⟨⟨⟨⟨⟨⟨⟨h1, h2⟩, h3⟩, h4⟩, h5⟩, h6⟩, h9⟩, h7⟩, h8⟩ := hB
  have hmle : m ≤ l.length := by have : l.toArray.size = l.length := by simp
                                 omega
  have hlt : (l.take m).length = m := by simp; omega
  refine wp_region_any hm ?_
  have hgu : ∀ i o, l.toArray[i]? = some o → M.has i = true → o.guard = none := fun i o ho hi => by
    obtain ⟨p, hp, he⟩ := List.any_eq_true.1 hi
    have him : i < m := by have := of_decide_eq_true (List.all_eq_true.1 hml p hp); rwa [show p.1 = i by simpa using he] at this
    have h10 := List.all_eq_true.1 h9 i (List.mem_range.2 him)
    rw [Bool.or_eq_true] at h10
    rcases h10 with h10 | h10
    · rw [show (M.ml.any fun p => p.1 == i) = true from hi] at h10; cases h10
    · rw [ho] at h10; exact Option.isNone_iff_eq_none.1 h10
  have hdone : ∀ p ∈ M.ml, (doneTo m 0 (Array.replicate l.toArray.size false)).getD p.1 false = true := fun p hp => List.all_eq_true.1 h8 p.1 (List.mem_range.2 (of_decide_eq_true (List.all_eq_true.1 hml p hp)))
  have hput : ∀ (ml : List (Nat × Tmp)) (u : Nat → Value) (a : Act), (∀ p ∈ ml, (doneTo m 0 (Array.replicate l.toArray.size false)).getD p.1 false = true) → putM ml (doneTo m 0 (Array.replicate l.toArray.size false)) u a = ml.foldl (fun a p => a.put (some p.2) (u p.1)) a := by
    intro ml
    induction ml with
    | nil => intro u a _; rfl
    | cons p ml ih =>
      intro u a hh
      show putM ml _ u (if _ then _ else _) = ml.foldl _ _
      rw [if_pos (hh p List.mem_cons_self)]
      exact ih u _ (fun q hq => hh q (List.mem_cons_of_mem _ hq))
  have hput0 : ∀ (ml : List (Nat × Tmp)) (u : Nat → Value) (a : Act), putM ml (Array.replicate l.toArray.size false) u a = a := by
    intro ml
    induction ml with
    | nil => intro u a; rfl
    | cons p ml ih =>
      intro u a
      show putM ml _ u (if _ then _ else _) = a
      rw [if_neg (by rw [getD_replicate_false]; decide)]
      exact ih u a
  have hA := anyD_lex (md := .any) (P := P) (ops := l.toArray) (w0 := w) (M := M) (m := m) (L := doneTo m 0 (Array.replicate l.toArray.size false)) (K := _) h3 h1 (fun j hj => of_decide_eq_true (List.all_eq_true.1 h5 j hj)) (l.take m) 0 (Array.replicate l.toArray.size false) a
    (fun i o _ hi => by rw [getD_replicate_false] at hi; cases hi) (by rw [hlt]; omega) (fun j o hj => by
      rw [Nat.zero_add]
      have hjm : j < m := by have := (List.getElem?_eq_some_iff.1 hj).1; omega
      rw [List.getElem?_take_of_lt hjm] at hj
      simpa using hj) (by rw [hlt]; exact h4) (by rw [hlt]) h
  rw [hlt] at hA
  have hS := anyD_sound (md := .any) (P := P) (ops := l.toArray) (w0 := w) (M := M) (Q := Q) (m := m) (f := (l.drop m).length) (L := doneTo m 0 (Array.replicate l.toArray.size false)) h1 h2 hp hgu (fun a' u lo hi W hK hW hk => by
    rw [hput M.ml u a' hdone]
    refine chain_list (l.drop m) m _ (fun j o hj => by rw [List.getElem?_drop] at hj; simpa using hj) h6 _ _ ?_
    exact hK u lo hi W hW (fun i hi => hk.1 i hi (by obtain ⟨p, hp, he⟩ := List.any_eq_true.1 hi; have := hdone p hp; rwa [show p.1 = i by simpa using he] at this))
      (fun i j hi hj hw => hk.2 i j hi hj (by obtain ⟨p, hp, he⟩ := List.any_eq_true.1 hj; have := hdone p hp; rwa [show p.1 = j by simpa using he] at this) hw))
    m (Array.replicate l.toArray.size false) a (fun _ => undef) (fun _ => 0) (fun _ => 0) { w with drawn := w.drawn + 1 } (by simp) (fun i o _ hi => by rw [getD_replicate_false] at hi; cases hi) hA ⟨below_drew (Below.refl _ _)⟩
    ⟨fun i _ hi => (by rw [getD_replicate_false] at hi; cases hi), fun i j _ _ hj _ => (by rw [getD_replicate_false] at hj; cases hj)⟩
  rw [hput0] at hS
  rwa [show (l.drop m).length + m = l.toArray.size by omega] at hS
section
variable {w0 : World} {M : Makers} {K : Act → Prop}
theorem lexD_nil {k : Nat} {a : Act} (h : K a) : LexD P md ops w0 M K k [] a := h
theorem lexD_do {k : Nat} {o : Oper} {r : List Oper} {a : Act} (v : Value) (hk : M.has k = false) (hw : Region.wanted o (yielded ops a.tmps) = true) (hr : ∀ W, Up w0 W → UponB P (fun u _ => u = v) W ((execOp a.eval o).run P W)) (h : LexD P md ops w0 M K (k + 1) r (a.put o.dst v)) : LexD P md ops w0 M K k (o :: r) a :=
  ⟨v, by unfold PlanD; rw [hk]; exact .inl ⟨hw, hr⟩, h⟩
theorem lexD_make {k : Nat} {o : Oper} {r : List Oper} {a : Act} (hk : M.has k = true) (hw : Region.wanted o (yielded ops a.tmps) = true) (hr : ∀ u lo hi W, Up w0 W → DepsKnown md ops M k u lo hi W → UponB P (fun v W' => M.G k v W.heap.size W'.heap.size W') W ((execOp (fillM M.ml u a).eval o).run P W)) (h : LexD P md ops w0 M K (k + 1) r (a.put o.dst undef)) : LexD P md ops w0 M K k (o :: r) a :=
  ⟨undef, by unfold PlanD; rw [hk]; exact ⟨rfl, hw, hr⟩, h⟩
theorem lexD_norm {k : Nat} {r : List Oper} {a : Act} (h : ∀ L : Act → Prop, (∀ a', LexD P md ops w0 M K k r a' → L a') → L a) : LexD P md ops w0 M K k r a := h _ fun _ h => h
end
end
end Go.Proofs.YtogjkkbhmanbmaaGreatDoor.Grow
set_option linter.unusedVariables false
namespace Go.Proofs.YtogjkkbhmanbmaaGreatDoor.GrowK
open Go.RowKit Go.Proofs.YtogjkkbhmanbmaaGreatDoorW.PrintWords Go.Proofs.YtogjkkbhmanbmaaGreatDoor.B Go.Proofs.YtogjkkbhmanbmaaGreatDoor.Grow
section
variable {P : Program} {ops : Array Oper} {md : Region.Mode}
/-- Memory has grown: what was there at w0 is as it was; what the region made keeps its cells and its type. -/
def Kp (w0 W W' : World) : Prop := Below w0.heap.size W W' ∧ (∀ a v, W.cell? a = some v → W'.cell? a = some v) ∧ ∀ (b : Nat) (cs : Array Value) (T : TypeId) (fr : Nat × Nat), W.heap[b]? = some (Obj.cells cs T fr) → ∃ fr', W'.heap[b]? = some (Obj.cells cs T fr')
theorem Kp.refl (w0 W : World) : Kp w0 W W := ⟨Below.refl _ _, fun _ _ h => h, fun _ _ _ fr h => ⟨fr, h⟩⟩
theorem Kp.of {w0 W W' : World} (hs : w0.heap.size ≤ W.heap.size) (h : Below W.heap.size W W') : Kp w0 W W' := ⟨h.mono hs, fun _ _ hc => pw_cell_below h hc, fun _ _ _ fr hb => ⟨fr, blk_below hb h⟩⟩
/-- The operation comes to a value of which R tells, and only makes memory, or marks what the region made. -/
def UponK (P : Program) (w0 : World) (R : Value → World → Prop) (W : World) : Result Next → Prop
  | .ok (.value u) w => R u w ∧ Kp w0 W w
  | .ok .skip w => R undef w ∧ Kp w0 W w
  | .ok (.enter f args) w => Calls P f args w fun e w' => ∃ v, e = .returned v ∧ R v w' ∧ Kp w0 W w'
  | _ => False
theorem UponK.val {w0 : World} {v : Value} {w : World} : UponK P w0 (fun u _ => u = v) w (.ok (.value v) w) := ⟨rfl, Kp.refl _ _⟩
theorem UponK.boxR {w0 : World} {R : Value → World → Prop} {v : Value} {w : World} {o : Obj} (hj : Up w0 w) (h : R v (w.alloc o)) : UponK P w0 R w (.ok (.value v) (w.alloc o)) := ⟨h, Kp.of hj.out.size (below_alloc (Below.refl _ _) o)⟩
theorem UponK.call {w0 : World} {v : Value} {w : World} {f : FuncId} {args : Array Value} (hj : Up w0 w) (h : Calls P f args w fun e w' => e = .returned v ∧ Below w.heap.size w w') : UponK P w0 (fun u _ => u = v) w (.ok (.enter f args) w) :=
  h.mono fun _ _ h => ⟨_, h.1, rfl, Kp.of hj.out.size h.2⟩
theorem UponK.made {w0 : World} {R : Value → World → Prop} {w : World} {f : FuncId} {args : Array Value} (hj : Up w0 w) (h : Calls P f args w fun e w' => ∃ v, e = .returned v ∧ R v w' ∧ Below w.heap.size w w') : UponK P w0 R w (.ok (.enter f args) w) :=
  h.mono fun _ _ ⟨v, h1, h2, h3⟩ => ⟨v, h1, h2, Kp.of hj.out.size h3⟩
def GivesB (P : Program) (ops : Array Oper) (w0 : World) (R : World → Value → World → Prop) (o : Oper) (a : Act) : Prop :=
  (Region.wanted o (yielded ops a.tmps) = true ∧ ∀ W, Up w0 W → UponK P w0 (R W) W ((execOp a.eval o).run P W)) ∨ (Region.wanted o (yielded ops a.tmps) = false ∧ ∀ W, R W undef W)
/-- What a region makes: the makers (place in the text, slot) and what is told of each. -/
structure Makers (w0 : World) where
  ml : List (Nat × Tmp)
  G : Nat → Value → Nat → Nat → World → Prop
  stays : ∀ i v lo hi W W', Kp w0 W W' → G i v lo hi W → G i v lo hi W'
def Makers.has {w0 : World} (M : Makers w0) (i : Nat) : Bool := M.ml.any fun p => p.1 == i
/-- What is known of the makers that have run. -/
def Known (md : Region.Mode) (ops : Array Oper) (w0 : World) (M : Makers w0) (l : Array Bool) (u : Nat → Value) (lo hi : Nat → Nat) (W : World) : Prop :=
  (∀ i, M.has i = true → l.getD i false = true → M.G i (u i) (lo i) (hi i) W ∧ w0.heap.size ≤ lo i ∧ lo i ≤ hi i ∧ hi i ≤ W.heap.size) ∧
  ∀ i j, M.has i = true → M.has j = true → l.getD j false = true → waits md ops i j = true → hi i ≤ lo j
theorem Known.grow {w0 : World} {M : Makers w0} {l : Array Bool} {u : Nat → Value} {lo hi : Nat → Nat} {W W' : World} {j : Nat} (h : Known md ops w0 M l u lo hi W) (hb : Kp w0 W W') (hj : M.has j = false) : Known md ops w0 M (l.setIfInBounds j true) u lo hi W' := by
  have hne : ∀ i, M.has i = true → j ≠ i := fun i h1 h2 => by rw [h2, h1] at hj; cases hj
  refine ⟨fun i h1 h2 => ?_, fun i k h1 h2 h3 h4 => ?_⟩
  · rw [getD_set_ne false (hne i h1)] at h2
    obtain ⟨a, b, c, d⟩ := h.1 i h1 h2
    exact ⟨M.stays _ _ _ _ _ _ hb a, b, c, Nat.le_trans d hb.1.size⟩
  · rw [getD_set_ne false (hne k h2)] at h3
    exact h.2 i k h1 h2 h3 h4
theorem Known.make {w0 : World} {M : Makers w0} {l : Array Bool} {u : Nat → Value} {lo hi : Nat → Nat} {W W' : World} {j : Nat} {x : Value} (h : Known md ops w0 M l u lo hi W) (hw : Up w0 W) (hb : Kp w0 W W') (hl : l.getD j false = false) (hs : Grow.Shut md ops l) (hr : j ∈ Region.ready md ops l) (hG : M.G j x W.heap.size W'.heap.size W') :
    Known md ops w0 M (l.setIfInBounds j true) (fun k => if k = j then x else u k) (fun k => if k = j then W.heap.size else lo k) (fun k => if k = j then W'.heap.size else hi k) W' := by
  refine ⟨fun i h1 h2 => ?_, fun i k h1 h2 h3 h4 => ?_⟩
  · by_cases e : i = j
    · subst e
      simp only [if_true]
      exact ⟨hG, hw.out.size, hb.1.size, Nat.le_refl _⟩
    · simp only [if_neg e]
      rw [getD_set_ne false (Ne.symm e)] at h2
      obtain ⟨a, b, c, d⟩ := h.1 i h1 h2
      exact ⟨M.stays _ _ _ _ _ _ hb a, b, c, Nat.le_trans d hb.1.size⟩
  · obtain ⟨o, ho, e, he, hon, hbi⟩ := waits_spec h4
    by_cases ek : k = j
    · subst ek
      obtain ⟨_, o', ho', hall⟩ := mem_ready.1 hr
      rw [ho] at ho'; injection ho' with ho'; subst ho'
      have hli := hall e he hbi
      rw [hon] at hli
      have ne : i ≠ k := fun h => by rw [h, hl] at hli; cases hli
      simp only [if_neg ne, if_true]
      exact (h.1 i h1 hli).2.2.2
    · rw [getD_set_ne false (Ne.symm ek)] at h3
      have hli := hs k o ho h3 e he hbi
      rw [hon] at hli
      have ne : i ≠ j := fun h => by rw [h, hl] at hli; cases hli
      simp only [if_neg ne, if_neg ek]
      exact h.2 i k h1 h2 h3 h4
theorem wp_of_upon {w0 : World} {o : Oper} {a : Act} {R : Value → World → Prop} {K : Act → World → Prop} {Q : Exit → Act → World → Prop} {W : World} {r : Result Next} (hr : (execOp a.eval o).run P W = r) (h : UponK P w0 R W r) (hK : ∀ x W', R x W' → Kp w0 W W' → K (a.put o.dst x) W') : o.wp P a W K Q := by
  unfold Oper.wp
  rw [hr]
  cases r with
  | ok x w' =>
    cases x <;> simp only [UponK] at h <;> simp only [Oper.upon]
    case value u => exact hK _ _ h.1 h.2
    case skip => exact hK _ _ h.1 h.2
    case enter f args => exact h.mono fun e w'' ⟨v, he, h1, h2⟩ => by subst he; exact hK _ _ h1 h2
  | halt x w' => simp only [UponK] at h
def DepsKnown {w0 : World} (md : Region.Mode) (ops : Array Oper) (M : Makers w0) (i : Nat) (u : Nat → Value) (lo hi : Nat → Nat) (W : World) : Prop := ∀ j, M.has j = true → waits md ops j i = true → M.G j (u j) (lo j) (hi j) W
def PlanD (P : Program) (md : Region.Mode) (ops : Array Oper) (w0 : World) (M : Makers w0) (i : Nat) (o : Oper) (v : Value) (a : Act) : Prop :=
  if M.has i then v = undef ∧ Region.wanted o (yielded ops a.tmps) = true ∧ ∀ u lo hi W, Up w0 W → DepsKnown md ops M i u lo hi W → UponK P w0 (fun v W' => M.G i v W.heap.size W'.heap.size W') W ((execOp (fillM M.ml u a).eval o).run P W) else GivesB P ops w0 (fun _ u _ => u = v) o a
def LexD (P : Program) (md : Region.Mode) (ops : Array Oper) (w0 : World) (M : Makers w0) (K : Act → Prop) : Nat → List Oper → Act → Prop
  | _, [], a => K a
  | k, o :: r, a => ∃ v, PlanD P md ops w0 M k o v a ∧ LexD P md ops w0 M K (k + 1) r (a.put o.dst v)
def AnyD (P : Program) (md : Region.Mode) (ops : Array Oper) (w0 : World) (M : Makers w0) (m : Nat) (K : Array Bool → Act → Prop) : Nat → Array Bool → Act → Prop
  | 0, l, a => K l a
  | n + 1, l, a => Region.ready md ops l ≠ [] ∧ ∀ i ∈ Region.ready md ops l, i < m ∧ ∀ o, ops[i]? = some o → ∃ v, PlanD P md ops w0 M i o v a ∧ AnyD P md ops w0 M m K n (l.setIfInBounds i true) (a.put o.dst v)
theorem PlanD.put {w0 : World} {M : Makers w0} {i : Nat} {o : Oper} {v : Value} {a : Act} {d : Option Tmp} {x : Value} (hsel : ∀ cs b, o.op ≠ .select cs b) (hd : ∀ d', d = some d' → d' ∉ o.looksAt ops) : PlanD P md ops w0 M i o v (a.put d x) ↔ PlanD P md ops w0 M i o v a := by
  unfold PlanD GivesB
  rw [wanted_put o a d x hd, execOp_put o hsel a d x hd]
  simp only [fillM_exec hsel M.ml a d x hd]
theorem anyD_first {w0 : World} {M : Makers w0} {K : Array Bool → Act → Prop} {m i : Nat} {oi : Oper} {v : Value} (hi : ops[i]? = some oi) (him : i < m) (hcut : cutB md ops m = true) (hK : ∀ l a, K l a → ∀ j ∈ Region.ready md ops l, m ≤ j) (hsel : ∀ (j : Nat) (o : Oper) cs b, ops[j]? = some o → o.op ≠ .select cs b) :
    ∀ (n : Nat) (l : Array Bool) (a : Act), Grow.Shut md ops l →
      (∀ j oj, ops[j]? = some oj → j ≠ i → l.getD j true = false → (∀ e ∈ oj.after, Region.binds md e = true → e.on ≠ i) → oi.apart ops oj = true) →
      i ∈ Region.ready md ops l → PlanD P md ops w0 M i oi v a → AnyD P md ops w0 M m K n (l.setIfInBounds i true) (a.put oi.dst v) → AnyD P md ops w0 M m K (n + 1) l a := by
  intro n
  induction n with
  | zero =>
    intro l a hs _ hr hg H
    refine ⟨fun h => (by rw [h] at hr; cases hr), fun j hj => ⟨cut_spec hcut hs hr him hj, fun o ho => ?_⟩⟩
    by_cases e : j = i
    · subst e
      rw [hi] at ho; injection ho with ho; subst ho
      exact ⟨v, hg, H⟩
    · have h1 := hK _ _ H j (ready_mono hj e)
      have h2 := cut_spec hcut hs hr him hj
      omega
  | succ n ih =>
    intro l a hs hfree hr hg H
    refine ⟨fun h => (by rw [h] at hr; cases hr), fun j hj => ⟨cut_spec hcut hs hr him hj, fun oj hoj => ?_⟩⟩
    by_cases e : j = i
    · subst e
      rw [hi] at hoj; injection hoj with hoj; subst hoj
      exact ⟨v, hg, H⟩
    · obtain ⟨u, hu, hK'⟩ := (H.2 j (ready_mono hj e)).2 oj hoj
      obtain ⟨hjun, oj', hoj', hall⟩ := mem_ready.1 hj
      rw [hoj] at hoj'; injection hoj' with hoj'; subst hoj'
      have hnot : ∀ e ∈ oj.after, Region.binds md e = true → e.on ≠ i := fun e he hb heq => by
        have h1 := hall e he hb
        have h0 := (mem_ready.1 hr).1
        rw [heq] at h1
        rcases Nat.lt_or_ge i l.size with h' | h'
        · simp [h'] at h0 h1; rw [h0] at h1; cases h1
        · simp [Array.getElem?_eq_none h'] at h1
      obtain ⟨h1, h2, h3⟩ := Oper.apart_spec (hfree j oj hoj e hjun hnot)
      refine ⟨u, (PlanD.put (fun cs b => hsel j oj cs b hoj) h1).1 hu, ?_⟩
      refine ih (l.setIfInBounds j true) _ (hs.set hj) (fun k ok hk hki hun hno => hfree k ok hk hki ?_ hno) (ready_mono hr (Ne.symm e)) ((PlanD.put (fun cs b => hsel i oi cs b hi) h3).2 hg) ?_
      · by_cases hjk : j = k
        · subst hjk; exact hjun
        · rw [getD_set_ne true hjk] at hun; exact hun
      · rw [Array.setIfInBounds_comm _ _ e, ← Act.put_comm a v u h2]
        exact hK'
theorem anyD_lex {w0 : World} {M : Makers w0} {K : Act → Prop} {m : Nat} {L : Array Bool} (hcut : cutB md ops m = true) (hs : Region.noSelect ops = true) (hL : ∀ j ∈ Region.ready md ops L, m ≤ j) : ∀ (l : List Oper) (k : Nat) (b : Array Bool) (a : Act), Grow.Shut md ops b → k + l.length = m → (∀ j o, l[j]? = some o → ops[k + j]? = some o) →
    lexTo md ops l.length k b = true → doneTo l.length k b = L → LexD P md ops w0 M K k l a → AnyD P md ops w0 M m (fun l' a' => l' = L ∧ K a') l.length b a
  | [], _, _, _, _, _, _, _, hd, h => ⟨hd, h⟩
  | o :: l, k, b, a, hsh, hm, hl, hB, hd, h => by
    have h0 : ops[k]? = some o := by simpa using hl 0 o rfl
    simp only [List.length_cons, lexTo, Bool.and_eq_true] at hB
    obtain ⟨⟨hr, hf⟩, hB'⟩ := hB
    have hr' : k ∈ Region.ready md ops b := by simpa using hr
    obtain ⟨v, hg, hK⟩ := h
    exact anyD_first (K := fun l' a' => l' = L ∧ K a') h0 (by simp only [List.length_cons] at hm; omega) hcut (fun l' a' h j hj => hL j (h.1 ▸ hj)) (Region.noSelect_spec hs) l.length b a hsh (Region.free_spec h0 hf) hr' hg
      (anyD_lex hcut hs hL l (k + 1) _ _ (hsh.set hr') (by simp only [List.length_cons] at hm; omega) (fun j o hj => by have := hl (j + 1) o (by simpa using hj); simpa [Nat.add_assoc, Nat.add_comm 1 j] using this) hB' hd hK)
def blindD (md : Region.Mode) (ops : Array Oper) (m : Nat) (M : List (Nat × Tmp)) : Bool :=
  (List.range m).all fun i => match ops[i]? with
    | some o => M.all fun p => (!(o.looksAt ops).contains p.2 || (M.any (fun q => q.1 == i) && waits md ops p.1 i)) && (if p.1 == i then o.dst == some p.2 else o.dst != some p.2)
    | none => true
theorem anyD_sound {w0 : World} {M : Makers w0} {K : Act → Prop} {Q : Exit → Act → World → Prop} {m f : Nat} {L : Array Bool} (hsel : Region.noSelect ops = true) (hbl : blindD md ops m M.ml = true) (hp : M.ml.Pairwise (fun p q => p.1 ≠ q.1 ∧ p.2 ≠ q.2)) (hgu : ∀ i o, ops[i]? = some o → M.has i = true → o.guard = none)
    (hend : ∀ a u lo hi W, K a → Up w0 W → Known md ops w0 M L u lo hi W → wpAny P md ops Q f L (putM M.ml L u a) W) :
    ∀ (n : Nat) (l : Array Bool) (a : Act) (u : Nat → Value) (lo hi : Nat → Nat) (W : World), l.size = ops.size → Grow.Shut md ops l →
      AnyD P md ops w0 M m (fun l' a' => l' = L ∧ K a') n l a → Up w0 W → Known md ops w0 M l u lo hi W → wpAny P md ops Q (f + n) l (putM M.ml l u a) W
  | 0, l, a, u, lo, hi, W, _, _, h, hW, hk => by
    obtain ⟨rfl, hK⟩ := h
    exact hend a u lo hi W hK hW hk
  | n + 1, l, a, u, lo, hi, W, hsz, hsh, h, hW, hk => by
    show wpAny P md ops Q ((f + n) + 1) l _ W
    refine ⟨fun h0 => absurd h0 h.1, fun i hi' => ?_⟩
    obtain ⟨him, hpl⟩ := h.2 i hi'
    obtain ⟨h0, o, ho, hall⟩ := mem_ready.1 hi'
    have hil := (Array.getElem?_eq_some_iff.1 ho).1
    obtain ⟨v, hg, hK⟩ := hpl o ho
    have hb1 := List.all_eq_true.1 hbl i (List.mem_range.2 him)
    simp only [ho] at hb1
    have hb2 : ∀ p ∈ M.ml, (p.2 ∉ o.looksAt ops ∨ (M.has i = true ∧ waits md ops p.1 i = true)) ∧ (if p.1 = i then o.dst = some p.2 else o.dst ≠ some p.2) := fun p hp => by
      have := List.all_eq_true.1 hb1 p hp
      rw [Bool.and_eq_true, Bool.or_eq_true, Bool.and_eq_true] at this
      refine ⟨this.1.imp (fun h => by simpa using h) (fun h => h), ?_⟩
      by_cases e : p.1 = i
      · simpa [e] using this.2
      · simpa [e] using this.2
    have hln : l.getD i false = false := getD_both h0
    unfold PlanD at hg
    unfold wpOp
    simp only [ho]
    cases hmk : M.has i with
    | true =>
      rw [hmk] at hg
      obtain ⟨rfl, hw, hv⟩ := hg
      have hnot : ∀ p ∈ M.ml, l.getD p.1 false = false → p.2 ∉ o.looksAt ops := fun p hp hl => by
        rcases (hb2 p hp).1 with h | ⟨_, h⟩
        · exact h
        · obtain ⟨o', ho', e, he, hon, hbi⟩ := waits_spec h
          rw [ho] at ho'; injection ho' with ho'; subst ho'
          have := hall e he hbi
          rw [hon, hl] at this; cases this
      have e1 := putM_fill (l := l) (u := u) (Region.noSelect_spec hsel i o · · ho) M.ml a hp hnot
      have hdeps : DepsKnown md ops M i u lo hi W := fun j hj hwj => by
        obtain ⟨o', ho', e, he, hon, hbi⟩ := waits_spec hwj
        rw [ho] at ho'; injection ho' with ho'; subst ho'
        have := hall e he hbi
        rw [hon] at this
        exact (hk.1 j hj this).1
      obtain ⟨p, hpm, hpi⟩ := List.any_eq_true.1 hmk
      have hpi' : p.1 = i := by simpa using hpi
      have hd : o.dst = some p.2 := by have := (hb2 p hpm).2; rwa [if_pos hpi'] at this
      have next : ∀ x W', M.G i x W.heap.size W'.heap.size W' → Kp w0 W W' → wpAny P md ops Q (f + n) (l.setIfInBounds i true) ((putM M.ml l u a).put o.dst x) W' := fun x W' hG hbe => by
        have e := putM_make (u := u) (x := x) hln (by rw [hsz]; exact hil) M.ml a hp (show (i, p.2) ∈ M.ml by rw [← hpi']; exact hpm)
        rw [hd, ← e, ← hd]
        exact anyD_sound hsel hbl hp hgu hend n _ _ _ _ _ _ (by simp [hsz]) (hsh.set hi') hK ⟨hW.out.trans hbe.1⟩ (hk.make hW hbe hln hsh hi' hG)
      have hw' : Region.wanted o (yielded ops (putM M.ml l u a).tmps) = true := by
        have hgn := hgu i o ho hmk
        simp only [Region.wanted, hgn]
      rw [if_pos hw']
      refine .inl ?_
      exact wp_of_upon (by rw [e1]) (hv u lo hi W hW hdeps) next
    | false =>
      rw [hmk] at hg
      have hb3 : ∀ p ∈ M.ml, p.2 ∉ o.looksAt ops := fun p hp => by
        rcases (hb2 p hp).1 with h | ⟨h, _⟩
        · exact h
        · rw [hmk] at h; cases h
      obtain ⟨e1, e2⟩ := putM_exec (l := l) (u := u) (Region.noSelect_spec hsel i o · · ho) M.ml a hb3
      rw [e2]
      have hn : ∀ p ∈ M.ml, p.1 ≠ i := fun p hp e => by
        have : M.has i = true := List.any_eq_true.2 ⟨p, hp, by simp [e]⟩
        rw [hmk] at this; cases this
      have next : ∀ x W', x = v → Kp w0 W W' → wpAny P md ops Q (f + n) (l.setIfInBounds i true) ((putM M.ml l u a).put o.dst x) W' := fun x W' hx hbe => by
        subst hx
        have e := putM_set (l := l) (u := u) (j := i) (x := u i) M.ml (a.put o.dst x) hn
        have eu : (fun k => if k = i then u i else u k) = u := by funext k; split <;> simp_all
        rw [eu] at e
        rw [← putM_put M.ml a (fun p hp e => by have := (hb2 p hp).2; rw [if_neg (hn p hp)] at this; exact this e.symm), ← e]
        exact anyD_sound hsel hbl hp hgu hend n _ _ _ _ _ _ (by simp [hsz]) (hsh.set hi') hK ⟨hW.out.trans hbe.1⟩ (hk.grow hbe hmk)
      rcases hg with ⟨hw, hv⟩ | ⟨hw, hv⟩
      · rw [if_pos hw]
        refine .inl ?_
        exact wp_of_upon (by rw [e1]) (hv W hW) next
      · rw [if_neg (by rw [hw]; decide)]
        exact next _ _ (hv W) (Kp.refl _ _)
def planD (md : Region.Mode) (ops : Array Oper) (m f : Nat) (ml : List (Nat × Tmp)) : Bool :=
  Region.noSelect ops && blindD md ops m ml && cutB md ops m && lexTo md ops m 0 (Array.replicate ops.size false) && (Region.ready md ops (doneTo m 0 (Array.replicate ops.size false))).all (fun j => decide (m ≤ j)) && chainB md ops f m (doneTo m 0 (Array.replicate ops.size false)) && (List.range m).all (fun i => !(ml.any fun p => p.1 == i) || match ops[i]? with | some o => o.guard.isNone | none => true) && decide (m + f = ops.size) && (List.range m).all fun j => (doneTo m 0 (Array.replicate ops.size false)).getD j false
theorem wp_region_deps {id : Nat} {Q : Exit → Act → World → Prop} {a : Act} {w : World} {l : List Oper} (m : Nat) (M : Makers w) (hm : P.follows .mixedOrders = true) (hp : M.ml.Pairwise (fun p q => p.1 ≠ q.1 ∧ p.2 ≠ q.2)) (hB : planD .any l.toArray m (l.drop m).length M.ml = true) (hml : M.ml.all (fun p => decide (p.1 < m)) = true)
    (h : LexD P .any l.toArray w M (fun a' => ∀ (u : Nat → Value) (lo hi : Nat → Nat) (W : World), Up w W → (∀ i, M.has i = true → M.G i (u i) (lo i) (hi i) W ∧ w.heap.size ≤ lo i ∧ lo i ≤ hi i ∧ hi i ≤ W.heap.size) → (∀ i j, M.has i = true → M.has j = true → waits .any l.toArray i j = true → hi i ≤ lo j) →
      wpList P l.toArray Q (l.drop m) (M.ml.foldl (fun a p => a.put (some p.2) (u p.1)) a') W) 0 (l.take m) a) : (Code.region id l.toArray true).wp P Q a w := by
  unfold planD at hB
  simp only [Bool.and_eq_true, decide_eq_true_eq] at hB
  obtain ⟨⟨⟨⟨⟨⟨⟨⟨h1, h2⟩, h3⟩, h4⟩, h5⟩, h6⟩, h9⟩, h7⟩, h8⟩ := hB
  have hmle : m ≤ l.length := by have : l.toArray.size = l.length := by simp
                                 omega
  have hlt : (l.take m).length = m := by simp; omega
  refine wp_region_any hm ?_
  have hgu : ∀ i o, l.toArray[i]? = some o → M.has i = true → o.guard = none := fun i o ho hi => by
    obtain ⟨p, hp, he⟩ := List.any_eq_true.1 hi
    have him : i < m := by have := of_decide_eq_true (List.all_eq_true.1 hml p hp); rwa [show p.1 = i by simpa using he] at this
    have h10 := List.all_eq_true.1 h9 i (List.mem_range.2 him)
    rw [Bool.or_eq_true] at h10
    rcases h10 with h10 | h10
    · rw [show (M.ml.any fun p => p.1 == i) = true from hi] at h10; cases h10
    · rw [ho] at h10; exact Option.isNone_iff_eq_none.1 h10
  have hdone : ∀ p ∈ M.ml, (doneTo m 0 (Array.replicate l.toArray.size false)).getD p.1 false = true := fun p hp => List.all_eq_true.1 h8 p.1 (List.mem_range.2 (of_decide_eq_true (List.all_eq_true.1 hml p hp)))
  have hput : ∀ (ml : List (Nat × Tmp)) (u : Nat → Value) (a : Act), (∀ p ∈ ml, (doneTo m 0 (Array.replicate l.toArray.size false)).getD p.1 false = true) → putM ml (doneTo m 0 (Array.replicate l.toArray.size false)) u a = ml.foldl (fun a p => a.put (some p.2) (u p.1)) a := by
    intro ml
    induction ml with
    | nil => intro u a _; rfl
    | cons p ml ih =>
      intro u a hh
      show putM ml _ u (if _ then _ else _) = ml.foldl _ _
      rw [if_pos (hh p List.mem_cons_self)]
      exact ih u _ (fun q hq => hh q (List.mem_cons_of_mem _ hq))
  have hput0 : ∀ (ml : List (Nat × Tmp)) (u : Nat → Value) (a : Act), putM ml (Array.replicate l.toArray.size false) u a = a := by
    intro ml
    induction ml with
    | nil => intro u a; rfl
    | cons p ml ih =>
      intro u a
      show putM ml _ u (if _ then _ else _) = a
      rw [if_neg (by rw [getD_replicate_false]; decide)]
      exact ih u a
  have hA := anyD_lex (md := .any) (P := P) (ops := l.toArray) (w0 := w) (M := M) (m := m) (L := doneTo m 0 (Array.replicate l.toArray.size false)) (K := _) h3 h1 (fun j hj => of_decide_eq_true (List.all_eq_true.1 h5 j hj)) (l.take m) 0 (Array.replicate l.toArray.size false) a
    (fun i o _ hi => by rw [getD_replicate_false] at hi; cases hi) (by rw [hlt]; omega) (fun j o hj => by
      rw [Nat.zero_add]
      have hjm : j < m := by have := (List.getElem?_eq_some_iff.1 hj).1; omega
      rw [List.getElem?_take_of_lt hjm] at hj
      simpa using hj) (by rw [hlt]; exact h4) (by rw [hlt]) h
  rw [hlt] at hA
  have hS := anyD_sound (md := .any) (P := P) (ops := l.toArray) (w0 := w) (M := M) (Q := Q) (m := m) (f := (l.drop m).length) (L := doneTo m 0 (Array.replicate l.toArray.size false)) h1 h2 hp hgu (fun a' u lo hi W hK hW hk => by
    rw [hput M.ml u a' hdone]
    refine chain_list (l.drop m) m _ (fun j o hj => by rw [List.getElem?_drop] at hj; simpa using hj) h6 _ _ ?_
    exact hK u lo hi W hW (fun i hi => hk.1 i hi (by obtain ⟨p, hp, he⟩ := List.any_eq_true.1 hi; have := hdone p hp; rwa [show p.1 = i by simpa using he] at this))
      (fun i j hi hj hw => hk.2 i j hi hj (by obtain ⟨p, hp, he⟩ := List.any_eq_true.1 hj; have := hdone p hp; rwa [show p.1 = j by simpa using he] at this) hw))
    m (Array.replicate l.toArray.size false) a (fun _ => undef) (fun _ => 0) (fun _ => 0) { w with drawn := w.drawn + 1 } (by simp) (fun i o _ hi => by rw [getD_replicate_false] at hi; cases hi) hA ⟨below_drew (Below.refl _ _)⟩
    ⟨fun i _ hi => (by rw [getD_replicate_false] at hi; cases hi), fun i j _ _ hj _ => (by rw [getD_replicate_false] at hj; cases hj)⟩
  rw [hput0] at hS
  rwa [show (l.drop m).length + m = l.toArray.size by omega] at hS
section
variable {w0 : World} {M : Makers w0} {K : Act → Prop}
theorem lexD_nil {k : Nat} {a : Act} (h : K a) : LexD P md ops w0 M K k [] a := h
theorem lexD_do {k : Nat} {o : Oper} {r : List Oper} {a : Act} (v : Value) (hk : M.has k = false) (hw : Region.wanted o (yielded ops a.tmps) = true) (hr : ∀ W, Up w0 W → UponK P w0 (fun u _ => u = v) W ((execOp a.eval o).run P W)) (h : LexD P md ops w0 M K (k + 1) r (a.put o.dst v)) : LexD P md ops w0 M K k (o :: r) a :=
  ⟨v, by unfold PlanD; rw [hk]; exact .inl ⟨hw, hr⟩, h⟩
theorem lexD_make {k : Nat} {o : Oper} {r : List Oper} {a : Act} (hk : M.has k = true) (hw : Region.wanted o (yielded ops a.tmps) = true) (hr : ∀ u lo hi W, Up w0 W → DepsKnown md ops M k u lo hi W → UponK P w0 (fun v W' => M.G k v W.heap.size W'.heap.size W') W ((execOp (fillM M.ml u a).eval o).run P W)) (h : LexD P md ops w0 M K (k + 1) r (a.put o.dst undef)) : LexD P md ops w0 M K k (o :: r) a :=
  ⟨undef, by unfold PlanD; rw [hk]; exact ⟨rfl, hw, hr⟩, h⟩
theorem lexD_norm {k : Nat} {r : List Oper} {a : Act} (h : ∀ L : Act → Prop, (∀ a', LexD P md ops w0 M K k r a' → L a') → L a) : LexD P md ops w0 M K k r a := h _ fun _ h => h
end
end
/-- What is told of the makers of a region, place by place. -/
def GAt (l : List (Nat × (Value → Nat → World → Prop))) (i : Nat) (v : Value) (lo : Nat) (W : World) : Prop := ∀ P, (i, P) ∈ l → P v lo W
def Stays (w0 : World) (P : Value → Nat → World → Prop) : Prop := ∀ v lo W W', Kp w0 W W' → P v lo W → P v lo W'
def AllStay (w0 : World) : List (Nat × (Value → Nat → World → Prop)) → Prop
  | [] => True
  | p :: t => Stays w0 p.2 ∧ AllStay w0 t
theorem AllStay.at {w0 : World} : ∀ {l : List (Nat × (Value → Nat → World → Prop))}, AllStay w0 l → ∀ p, p ∈ l → Stays w0 p.2
  | _ :: _, h, p, hp => by
    rcases List.mem_cons.1 hp with rfl | hp
    · exact h.1
    · exact AllStay.at h.2 p hp
theorem GAt.stays {w0 : World} {l : List (Nat × (Value → Nat → World → Prop))} (hl : AllStay w0 l) (i : Nat) (v : Value) (lo hi : Nat) (W W' : World) (hb : Kp w0 W W') (h : GAt l i v lo W) : GAt l i v lo W' := fun P hP => hl.at _ hP v lo W W' hb (h P hP)
theorem GAt.at {l : List (Nat × (Value → Nat → World → Prop))} {i : Nat} {v : Value} {lo : Nat} {W : World} (h : GAt l i v lo W) {P : Value → Nat → World → Prop} (hP : (i, P) ∈ l) : P v lo W := h P hP
theorem GAt.mk {l : List (Nat × (Value → Nat → World → Prop))} {i : Nat} {v : Value} {lo : Nat} {W : World} {P : Value → Nat → World → Prop} (h : P v lo W) (hl : ∀ p, p ∈ l → p.1 = i → p.2 = P) : GAt l i v lo W := fun P' hP' => by rw [show P' = P from hl (i, P') hP' rfl]; exact h
theorem wpl_norm {P : Program} {ops : Array Oper} {Q : Exit → Act → World → Prop} {rest : List Oper} {a : Act} {W : World} (h : ∀ K : Act → Prop, (∀ a', wpList P ops Q rest a' W → K a') → K a) : wpList P ops Q rest a W := h (fun a' => wpList P ops Q rest a' W) fun _ h => h
end Go.Proofs.YtogjkkbhmanbmaaGreatDoor.GrowK
namespace Go.Proofs.YtogjkkbhmanbmaaGreatDoor.L1
open Go.RowKit Go.Proofs.YtogjkkbhmanbmaaGreatDoorW.PrintWords Go.Proofs.YtogjkkbhmanbmaaGreatDoor.B
set_option linter.unusedVariables false
set_option linter.unusedSimpArgs false
attribute [local go_sem] mk_cell mk_frozen
/-- Slices, as a flat kind of one cell. -/
structure Sl where (A : Option Addr) (n c : Nat)
def kSl : Kd Sl := Kd.flat 1 (fun p => [.slice p.A p.n p.c]) (fun _ => rfl) (by intro x u hu; simp at hu; rcases hu with rfl; rfl)
def zSl : Sl := ⟨none, 0, 0⟩
/-- What the slices read. -/
def Flds (W : World) : List Sl → List (List Int) → Prop
  | [], [] => True
  | p :: ps, f :: fs => (p.n = f.length ∧ kByte.C W p.A f.length f ∧ Ty W p.A) ∧ Flds W ps fs
  | _, _ => False
theorem Flds.nil (W : World) : Flds W [] [] := trivial
theorem Flds.cons {W : World} {p : Sl} {f : List Int} {ps : List Sl} {fs : List (List Int)} (hn : p.n = f.length) (hc : kByte.C W p.A f.length f ∧ Ty W p.A) (h : Flds W ps fs) : Flds W (p :: ps) (f :: fs) := ⟨⟨hn, hc⟩, h⟩
theorem Flds.below {W W' : World} (hb : Below W.heap.size W W') : ∀ {ps : List Sl} {fs : List (List Int)}, Flds W ps fs → Flds W' ps fs
  | [], [], _ => trivial
  | p :: ps, f :: fs, h => ⟨⟨h.1.1, Kd.C_below h.1.2.1 hb, h.1.2.2.below hb⟩, Flds.below hb h.2⟩
theorem Flds.append {W : World} : ∀ {ps : List Sl} {fs : List (List Int)} {qs : List Sl} {gs : List (List Int)}, Flds W ps fs → Flds W qs gs → Flds W (ps ++ qs) (fs ++ gs)
  | [], [], _, _, _, h => h
  | p :: ps, f :: fs, qs, gs, h, h2 => ⟨h.1, Flds.append h.2 h2⟩
theorem Flds.len {W : World} : ∀ {ps : List Sl} {fs : List (List Int)}, Flds W ps fs → ps.length = fs.length
  | [], [], _ => rfl
  | p :: ps, f :: fs, h => by rw [List.length_cons, List.length_cons, Flds.len h.2]
theorem Flds.at {W : World} : ∀ {ps : List Sl} {fs : List (List Int)}, Flds W ps fs → ∀ j, j < fs.length → (ps.getD j zSl).n = (fs.getD j []).length ∧ kByte.C W (ps.getD j zSl).A (fs.getD j []).length (fs.getD j [])
  | [], [], _, _, hj => absurd hj (Nat.not_lt_zero _)
  | p :: ps, f :: fs, h, 0, _ => ⟨h.1.1, h.1.2.1⟩
  | p :: ps, f :: fs, h, j + 1, hj => Flds.at h.2 j (by rw [List.length_cons] at hj; omega)
theorem Flds.read {W : World} {ps : List Sl} {fs : List (List Int)} (h : Flds W ps fs) {B n : Nat} (hC : kSl.C W (some ⟨B, 0, none⟩) n ps) : ReadFlds W B fs := by
  intro j hj
  obtain ⟨h1, h2⟩ := h.at j hj
  have hn : ps.length = n := hC.1
  obtain ⟨ad, e0, t0, _⟩ := Kd.flat_cells (d := kSl) rfl hC zSl j (by rw [← hn, h.len]; exact hj)
  cases e0
  have := t0 _ rfl
  rw [Nat.mul_one, Addr.add_lit, Nat.zero_add] at this
  exact ⟨_, _, by rw [this, h1], h2⟩
theorem blk_lt' {W : World} {b : Nat} {o : Obj} (h : W.heap[b]? = some o) : b < W.heap.size := (Array.getElem?_eq_some_iff.1 h).1
theorem C_cells {W W' : World} (hk : ∀ a v, W.cell? a = some v → W'.cell? a = some v) {A : Option Addr} {n : Nat} {xs : List Int} (h : kByte.C W A n xs) : kByte.C W' A n xs :=
  ⟨h.1, h.2.1, fun hp => by
    obtain ⟨ad, e, hc⟩ := h.2.2 hp
    refine ⟨ad, e, fun j p hj => ?_⟩
    obtain ⟨cs, h1, h2, h3⟩ := hc j p hj
    exact ⟨cs, h1, h2, fun i u hu => hk _ _ (h3 i u hu)⟩⟩
theorem add_block (a : Addr) (n : Nat) : (a.add n).block = a.block := by unfold Addr.add; split <;> rfl
theorem C_grown {W W' : World} {row : Option Nat} (hg : W.grownBy W' row) {A : Option Addr} {n : Nat} {xs : List Int} (h : kByte.C W A n xs) (hne : ∀ ad, A = some ad → some ad.block ≠ row) : kByte.C W' A n xs :=
  ⟨h.1, h.2.1, fun hp => by
    obtain ⟨ad, e, hc⟩ := h.2.2 hp
    refine ⟨ad, e, fun j p hj => ?_⟩
    obtain ⟨cs, h1, h2, h3⟩ := hc j p hj
    exact ⟨cs, h1, h2, fun i u hu => World.grownBy.cell hg (h3 i u hu) (by rw [add_block]; exact hne ad e)⟩⟩
theorem Flds.grown {W W' : World} {base : Nat} {ok : Nat → Prop} {v : Value} {xs : List Sl} (hr : kSl.R 22 W base ok v xs) (hg : W.grownBy W' v.ownBlock) : ∀ {ps : List Sl} {fs : List (List Int)}, Flds W ps fs → Flds W' ps fs
  | [], [], _ => trivial
  | p :: ps, f :: fs, h => by
    have hne : ∀ ad : Addr, p.A = some ad → some ad.block ≠ v.ownBlock := fun ad e he => by
      obtain ⟨cs, fr, h1⟩ := h.1.2.2 ad e
      obtain ⟨inner, ho⟩ := Kd.R_own hr
      obtain ⟨cells, hc⟩ := own_typed ho ad.block he.symm
      rw [h1] at hc
      cases hc
    refine ⟨⟨h.1.1, C_grown hg h.1.2.1 hne, fun ad e => ?_⟩, Flds.grown hr hg h.2⟩
    obtain ⟨cs, fr, h1⟩ := h.1.2.2 ad e
    exact ⟨cs, fr, (hg.block _ (blk_lt' h1) (hne ad e)).trans h1⟩
def BytesP (xs : List Int) (v : Value) (lo : Nat) (W : World) : Prop := ByteRow W v xs
theorem BytesP.stays (w0 : World) (xs : List Int) : GrowK.Stays w0 (BytesP xs) := fun v lo W W' hb h => by
  obtain ⟨A, c, e, h, ht⟩ := h
  exact ⟨A, c, e, C_cells hb.2.1 h, fun ad e => by
    obtain ⟨cs, fr, h1⟩ := ht ad e
    obtain ⟨fr', h2⟩ := hb.2.2 _ _ _ _ h1
    exact ⟨cs, fr', h2⟩⟩
theorem BytesP.of {base : Nat} {ok : Nat → Prop} {W : World} {v : Value} {xs : List Int} {lo : Nat} (h : kByte.R 5 W base ok v xs) : BytesP xs v lo W := ByteRow.of h
/-- A constant's row, ahead of the turn to bytes. -/
def LitP (base : Nat) (xs : List Int) (v : Value) (lo : Nat) (W : World) : Prop := base ≤ lo ∧ ∃ fr, v = .slice (some ⟨lo, 0, none⟩) xs.length xs.length ∧ W.heap[lo]? = some (.cells (xs.map (Value.int .u8)).toArray 5 fr)
theorem LitP.stays (w0 : World) (base : Nat) (xs : List Int) : GrowK.Stays w0 (LitP base xs) := fun v lo W W' hb h => by
  obtain ⟨h0, fr, e, h⟩ := h
  obtain ⟨fr', h'⟩ := hb.2.2 _ _ _ _ h
  exact ⟨h0, fr', e, h'⟩
theorem sl_max (n : Nat) (h : n ≤ 100) : n ≤ maxLen := by simp only [maxLen]; omega
section
variable (w : World)
end
end Go.Proofs.YtogjkkbhmanbmaaGreatDoor.L1
