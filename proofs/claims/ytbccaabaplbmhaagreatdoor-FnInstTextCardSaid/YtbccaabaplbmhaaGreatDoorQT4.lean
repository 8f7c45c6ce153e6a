/- A region whose order is open, by what each slot holds once its operation is done: one function of what is done. Blocks written whole; results that lie in a block. A region whose first operations each give one value, whose rest is walked in any order; a call's pair of answers laid and stored. A region whose first operations are planned (makers among them), whose rest is walked in any order; an append stored into a field behind such a prefix. 'x.f = append(x.f, v)' as one region: every operation gives one value, in any order that the edges allow. What the small functions of the instance layer answer: arithmetic, places, vehicles, requests, roads. What the helpers of the laws answer over slices of vehicles, requests, roads: copies, comparisons, sizes. What the laws' helpers answer over a whole instance: its copy, its comparison with itself, its size. What ValidInst of the reference and of the program answer: one and the same condition on the instance. What the small functions over roads and nodes answer. -/
import Derived.Test.YtbccaabaplbmhaaGreatDoorQT3
import Derived.Test.YtbccaabaplbmhaaGreatDoorQT2
set_option linter.unusedVariables false
namespace Go.Proofs.YtbccaabaplbmhaaGreatDoor.Grow
section
variable {P : Program}
end
end Go.Proofs.YtbccaabaplbmhaaGreatDoor.Grow
namespace Go.Proofs.YtbccaabaplbmhaaGreatDoor.L1
open Go.RowKit Go.Proofs.YtbccaabaplbmhaaGreatDoorW.PrintWords Go.Proofs.YtbccaabaplbmhaaGreatDoor.B
set_option linter.unusedVariables false
set_option linter.unusedSimpArgs false
attribute [local go_sem] mk_cell mk_frozen
/-- Only blocks of S, and new ones, are written. -/
structure Tch (S : Nat → Prop) (W W' : World) : Prop where
  size : W.heap.size ≤ W'.heap.size
  same : ∀ k, k < W.heap.size → ¬S k → W'.heap[k]? = W.heap[k]?
  below : ∀ w0 : World, (∀ k, S k → w0.heap.size ≤ k) → Below w0.heap.size w0 W → Below w0.heap.size w0 W'
theorem Tch.refl (S : Nat → Prop) (W : World) : Tch S W W := ⟨Nat.le_refl _, fun _ _ _ => rfl, fun _ _ h => h⟩
theorem Tch.trans {S : Nat → Prop} {W W1 W2 : World} (h : Tch S W W1) (h' : Tch S W1 W2) : Tch S W W2 :=
  ⟨Nat.le_trans h.size h'.size, fun k hk hs => (h'.same k (Nat.lt_of_lt_of_le hk h.size) hs).trans (h.same k hk hs), fun w0 h0 hb => h'.below w0 h0 (h.below w0 h0 hb)⟩
theorem Tch.of_below {S : Nat → Prop} {W W1 : World} (h : Below W.heap.size W W1) : Tch S W W1 := ⟨h.size, fun k hk _ => h.block k hk, fun w0 _ hb => bel_call hb h⟩
theorem Tch.mono {S S' : Nat → Prop} {W W1 : World} (h : Tch S W W1) (hs : ∀ k, S k → S' k) : Tch S' W W1 := ⟨h.size, fun k hk hn => h.same k hk fun hk' => hn (hs k hk'), fun w0 h0 hb => h.below w0 (fun k hk => h0 k (hs k hk)) hb⟩
theorem Tch.set {S : Nat → Prop} {W : World} {b o : Nat} {v : Value} (h : S b) : Tch S W (W.setCell ⟨b, o, none⟩ v) :=
  ⟨Nat.le_of_eq (World.size_setCell _ _ _).symm, fun k _ hn => Below.heap_setCell W ⟨b, o, none⟩ v k (fun e => hn (by rw [e]; exact h)), fun w0 h0 hb => bel_set hb (h0 b h) v⟩
theorem Tch.grown {S : Nat → Prop} {W W1 : World} {b : Nat} (hg : W.grownBy W1 (some b)) (h : S b) (hz : W.heap.size ≤ W1.heap.size) : Tch S W W1 :=
  ⟨hz, fun k hk hn => hg.block k hk (fun e => hn (by injection e with e; rw [e]; exact h)), fun w0 h0 hb => pw_below_grown hb (some b) hb.size hg (fun k hk => by cases hk; exact h0 b h)⟩
/-- A result that lies in a block known whole. -/
theorem results_cell {P : Program} {fn : Func} {tmps : Array Value} {w : World} {a : Nat} {ty T : TypeId} {g : Nat} {cs : Array Value} {d : TypeDesc} (hr : fn.results = #[.cell a ty]) (hp : tmps.getD a undef = .pointer (some ⟨g, 0, none⟩)) (hg : w.heap[g]? = some (.cells cs T (0, 0)))
    (hu : P.underlying ty = some d) (hd : (match d with | .struct _ | .array _ _ => true | _ => false) = true) (hi : (P.info? ty).map (·.size) = some cs.size) : (results fn tmps).run P w = .ok (.agg cs) w := by
  have h := run_loadVar_row w g T ty cs (0, 0) d hg hu hd hi
  have hp' : tmps[a]?.getD undef = Value.pointer (some ⟨g, 0, none⟩) := by simpa using hp
  simp [results, hr, hp', asAddr, Sem.run_bind, h]
/-- A whole block is written. -/
theorem wpList_putAll {P : Program} {ops : Array Oper} {rest : List Oper} {o : Oper} {a : Act} {Q : Exit → Act → World → Prop} {W : World} (hN : o.dst = none) (hgd : o.guard = none) (t : TypeId) (p x : Operand) (ho : o.op = .store t p x) {g : Nat} {cs : Array Value} {T : TypeId} (vs : List Value) (haddr : a.eval p = .pointer (some ⟨g, 0, none⟩)) (hx : (a.eval x).cells.toList = vs)
    (ht : (P.info? t).map (·.size) = some vs.length) (h1 : ∀ q ∈ vs, q.oneCell' = true) (hg : W.heap[g]? = some (.cells cs T (0, 0))) (hl : vs.length = cs.size) (h : ∀ w1, w1.heap[g]? = some (.cells vs.toArray T (0, 0)) → Tch (fun k => k = g) W w1 → w1.heap.size = W.heap.size → wpList P ops Q rest a w1) : wpList P ops Q (o :: rest) a W := by
  obtain ⟨cur, h2, h3, h4⟩ := setCells_row vs 0 W cs hg (by omega)
  obtain ⟨s1, s2, s3, s4⟩ := setCells_same g vs 0 W
  have h5 : cur = vs.toArray := by
    apply Array.toList_inj.1
    rw [h4, List.take_zero, List.nil_append, List.drop_of_length_le (by simp; omega), List.append_nil]
  have hgr : W.grownBy (W.setCells g 0 vs) (some g) := ⟨s1, s2, s3, Nat.le_of_eq s4.symm, fun k _ hk => setCells_far vs 0 k (fun e => hk (by rw [e]))⟩
  have hrun : (Instr.storeAt t (.pointer (some ⟨g, 0, none⟩)) (a.eval x)).run P W = .ok () (W.setCells g 0 vs) := run_store_run t _ vs hg hx ht (by omega) h1
  refine wpList_plain hgd fun K hK => ?_
  unfold Oper.wp execOp
  simp only [ho, haddr, Sem.run_bind, Sem.run_pure, Result.andThen_ok, hrun]
  show K (a.put o.dst undef) _
  rw [hN]
  exact hK a _ (h _ (by rw [h2, h5]) (Tch.grown hgr rfl hgr.size) s4)
theorem tch_keep {W W' : World} {b k : Nat} {cs ck : Array Value} {T Tk : TypeId} (ht : Tch (fun k => k = b) W W') (hb : W.heap[b]? = some (.cells cs T (0, 0))) (hx : W.heap[k]? = some (.cells ck Tk (0, 0))) (hne : Tk ≠ T) : W'.heap[k]? = some (.cells ck Tk (0, 0)) :=
  (ht.same k (blk_lt hx) (blk_ne hx hb hne)).trans hx
theorem wpList_put1 {P : Program} {ops : Array Oper} {rest : List Oper} {o : Oper} {a : Act} {Q : Exit → Act → World → Prop} {W : World} (hN : o.dst = none) (hgd : o.guard = none) (t : TypeId) (p x : Operand) (ho : o.op = .store t p x) {g i : Nat} {cs : Array Value} {T : TypeId} (v : Value) (haddr : a.eval p = .pointer (some ⟨g, i, none⟩)) (hx : a.eval x = v) (hv : v.cells.toList = [v])
    (ht : (P.info? t).map (·.size) = some 1) (h1 : v.oneCell' = true) (hg : W.heap[g]? = some (.cells cs T (0, 0))) (hi : i < cs.size) (h : ∀ w1, w1.heap[g]? = some (.cells (cs.setIfInBounds i v) T (0, 0)) → Tch (fun k => k = g) W w1 → w1.heap.size = W.heap.size → wpList P ops Q rest a w1) : wpList P ops Q (o :: rest) a W := by
  have hrun : (Instr.storeAt t (.pointer (some ⟨g, i, none⟩)) v).run P W = .ok () (W.setCells g i [v]) := run_store_run t v [v] hg hv ht (by simp; omega) (by intro q hq; rw [List.mem_singleton.1 hq]; exact h1)
  have e : W.setCells g i [v] = W.setCell ⟨g, i, none⟩ v := rfl
  refine wpList_plain hgd fun K hK => ?_
  unfold Oper.wp execOp
  simp only [ho, haddr, hx, Sem.run_bind, Sem.run_pure, Result.andThen_ok, hrun]
  show K (a.put o.dst undef) _
  rw [hN, e]
  exact hK a _ (h _ (blk_set hg i v) (Tch.set rfl) (World.size_setCell _ _ _))
theorem act_eval_ne (a : Act) {d t : Tmp} (h : t ≠ d) (x : Value) : (a.put (some d) x).eval (.tmp t) = a.eval (.tmp t) := by
  simp [Act.put, Act.eval, Array.getD_eq_getD_getElem?, Array.getElem?_setIfInBounds_ne (Ne.symm h)]
theorem act_eval_eq (a : Act) {d : Tmp} (h : d < a.tmps.size) (x : Value) : (a.put (some d) x).eval (.tmp d) = x := by
  simp [Act.put, Act.eval, Array.getD_eq_getD_getElem?, h]
theorem act_size (a : Act) (d : Option Tmp) (x : Value) : (a.put d x).tmps.size = a.tmps.size := by cases d <;> simp [Act.put]
/-- A row is left alone by what writes a block of another type. -/
theorem R_tch {α : Type} {d : Kd α} {e base : Nat} {ok : Nat → Prop} {W W1 : World} {v : Value} {xs : List α} {b : Nat} {cs : Array Value} {T : TypeId} (h : d.R e W base ok v xs) (ht : Tch (fun k => k = b) W W1) (hb : W.heap[b]? = some (.cells cs T (0, 0))) (hne : T ∉ e :: d.E) : d.R e W1 base ok v xs :=
  Kd.R_mono (Kd.R_step (Kd.R_bound h) (fun k ho hk => ht.same k hk (fun e' => by
    obtain ⟨_, _, _, q, hq, cells, hc⟩ := ho
    rw [e', hb] at hc
    cases hc
    exact hne hq))) fun _ hk => hk.1
end Go.Proofs.YtbccaabaplbmhaaGreatDoor.L1
set_option linter.unusedVariables false
namespace Go.Proofs.YtbccaabaplbmhaaGreatDoor.Grow
open Go.RowKit Go.Proofs.YtbccaabaplbmhaaGreatDoorW.PrintWords Go.Proofs.YtbccaabaplbmhaaGreatDoor.B
section
variable {P : Program}
end
end Go.Proofs.YtbccaabaplbmhaaGreatDoor.Grow
namespace Go.Proofs.YtbccaabaplbmhaaGreatDoor.L1
open Go.RowKit Go.Proofs.YtbccaabaplbmhaaGreatDoorW.PrintWords Go.Proofs.YtbccaabaplbmhaaGreatDoor.B
end Go.Proofs.YtbccaabaplbmhaaGreatDoor.L1
set_option linter.unusedVariables false
namespace Go.Proofs.YtbccaabaplbmhaaGreatDoor.Grow
open Go.RowKit Go.Proofs.YtbccaabaplbmhaaGreatDoorW.PrintWords Go.Proofs.YtbccaabaplbmhaaGreatDoor.B
section
variable {P : Program}
end
end Go.Proofs.YtbccaabaplbmhaaGreatDoor.Grow
namespace Go.Proofs.YtbccaabaplbmhaaGreatDoor.L1
open Go.RowKit Go.Proofs.YtbccaabaplbmhaaGreatDoorW.PrintWords Go.Proofs.YtbccaabaplbmhaaGreatDoor.B
end Go.Proofs.YtbccaabaplbmhaaGreatDoor.L1
set_option linter.unusedVariables false
namespace Go.Proofs.YtbccaabaplbmhaaGreatDoor.L1
open Go.RowKit Go.Proofs.YtbccaabaplbmhaaGreatDoorW.PrintWords Go.Proofs.YtbccaabaplbmhaaGreatDoor.B
def look (l : List (Nat × Tmp × Value)) (a : Act) (f : Nat → Bool) (t : Tmp) : Value := match l.find? (fun p => p.2.1 == t) with
  | some p => if f p.1 = true then p.2.2 else a.tmps.getD t undef
  | none => a.tmps.getD t undef
/-- The frame when the operations f are done: each has laid its value. -/
def Good (l : List (Nat × Tmp × Value)) (a : Act) (f : Nat → Bool) (A : Act) : Prop := A.defers = a.defers ∧ A.tmps.size = a.tmps.size ∧ ∀ t, A.tmps.getD t undef = look l a f t
section
variable {l : List (Nat × Tmp × Value)} {a A A' : Act} {f f' : Nat → Bool} {d t : Tmp} {j : Nat} {v : Value}
theorem good_start (h : ∀ i, f i = false) : Good l a f a := ⟨rfl, rfl, fun t => by
  unfold look
  split
  · rw [h]; rfl
  · rfl⟩
theorem good_put (hG : Good l a f A) (hm : l.find? (fun p => p.2.1 == d) = some (j, d, v)) (hu : ∀ p ∈ l, p.1 = j → p.2.1 = d) (hs : d < a.tmps.size) : Good l a (fun k => f k || k == j) (A.put (some d) v) := by
  obtain ⟨h1, h2, h3⟩ := hG
  refine ⟨h1, (act_size A (some d) v).trans h2, fun t => ?_⟩
  by_cases ht : t = d
  · subst ht
    have e : (A.put (some t) v).tmps.getD t undef = v := act_eval_eq A (by rw [h2]; exact hs) v
    rw [e]
    unfold look
    rw [hm]
    simp
  · have e : (A.put (some d) v).tmps.getD t undef = A.tmps.getD t undef := act_eval_ne A ht v
    rw [e, h3]
    unfold look
    cases hf : l.find? (fun p => p.2.1 == t) with
    | none => rfl
    | some p =>
      have hp : p.2.1 = t := by have := List.find?_some hf; simpa using this
      have hj : (p.1 == j) = false := beq_false_of_ne fun hj => ht (hp ▸ hu p (List.mem_of_find?_eq_some hf) hj)
      show (if f p.1 = true then _ else _) = if (f p.1 || p.1 == j) = true then _ else _
      rw [hj, Bool.or_false]
theorem good_eval (hG : Good l a f A) (hm : l.find? (fun p => p.2.1 == d) = some (j, d, v)) (hf : f j = true) : A.eval (.tmp d) = v := by
  show A.tmps.getD d undef = v
  rw [hG.2.2 d]
  unfold look
  rw [hm]
  exact if_pos hf
theorem good_out (hG : Good l a f A) (hm : l.find? (fun p => p.2.1 == t) = none) : A.eval (.tmp t) = a.eval (.tmp t) := by
  show A.tmps.getD t undef = a.tmps.getD t undef
  rw [hG.2.2 t]
  unfold look
  rw [hm]
theorem good_one (hG : Good l a f A) (hG' : Good l a f' A') (h : ∀ p ∈ l, f p.1 = f' p.1) : A = A' := by
  obtain ⟨h1, h2, h3⟩ := hG
  obtain ⟨k1, k2, k3⟩ := hG'
  cases A with
  | mk x y =>
    cases A' with
    | mk x' y' =>
      have hx : x = x' := by
        apply Array.ext (h2.trans k2.symm)
        intro i i1 i2
        have e1 := h3 i
        have e2 := k3 i
        have e : look l a f i = look l a f' i := by
          unfold look
          split
          · rename_i p hp
            rw [h p (List.mem_of_find?_eq_some hp)]
          · rfl
        rw [e, ← e2] at e1
        simpa [Array.getD_eq_getD_getElem?, i1, i2] using e1
      rw [hx, show y = y' from h1.trans k1.symm]
end
theorem find_slot : ∀ {l : List (Nat × Tmp × Value)}, l.Pairwise (fun p q => p.2.1 ≠ q.2.1) → ∀ p ∈ l, l.find? (fun x => x.2.1 == p.2.1) = some p
  | [], _, p, hp => by simp at hp
  | x :: l, h, p, hp => by
    rw [List.pairwise_cons] at h
    rcases List.mem_cons.1 hp with rfl | hp
    · rw [List.find?_cons_of_pos (by simp)]
    · rw [List.find?_cons_of_neg (by simpa using h.1 p hp)]
      exact find_slot h.2 p hp
theorem wp_region_app {P : Program} {id : Nat} {Q : Exit → Act → World → Prop} {a : Act} {w : World} {o0 o1 o2 o3 o4 o5 o6 o7 o8 o9 o10 : Oper} (hm : P.follows .mixedOrders = true)
    (t0 t1 t2 t3 t4 t5 t6 t7 t8 t9 q V : Tmp) (T2 ts e T TV : TypeId) (i gi gv : Nat) (vs v1 : Value) (w1 : World) (cI cs : Array Value) (c1 : Array Value)
    (h0 : o0.dst = some t0 ∧ o0.op = .move (.tmp q)) (h1 : o1.dst = some t1 ∧ o1.op = .move (.tmp q)) (h2 : o2.dst = some t2 ∧ o2.op = .nilCheck (.tmp t1)) (h3 : o3.dst = some t3 ∧ o3.op = .fieldAddr T2 (.tmp t2) i) (h4 : o4.dst = some t4 ∧ o4.op = .load ts (.tmp t3)) (h5 : o5.dst = some t5 ∧ o5.op = .load e (.tmp V)) (h6 : o6.dst = some t6 ∧ o6.op = .buildSlice ts 1 #[(0, .tmp t5)])
    (h7 : o7.dst = some t7 ∧ o7.op = .call { callee := .builtin .append, args := #[.tmp t4, .tmp t6], argTypes := #[ts, ts] }) (h8 : o8.dst = some t8 ∧ o8.op = .nilCheck (.tmp t0)) (h9 : o9.dst = some t9 ∧ o9.op = .fieldAddr T2 (.tmp t8) i) (h10 : o10.dst = none ∧ o10.op = .store ts (.tmp t9) (.tmp t7))
    (hg : [o0, o1, o2, o3, o4, o5, o6, o7, o8, o9, o10].all (fun o => o.guard.isNone) = true) (hb : Go.Proofs.YtbccaabaplbmhaaGreatDoor.Grow.backB .any [o0, o1, o2, o3, o4, o5, o6, o7, o8, o9, o10].toArray = true)
    (he : (o2.after.any (fun e => e.on == 1 && Region.binds .any e) && o3.after.any (fun e => e.on == 2 && Region.binds .any e) && o4.after.any (fun e => e.on == 3 && Region.binds .any e) && o6.after.any (fun e => e.on == 5 && Region.binds .any e) && o7.after.any (fun e => e.on == 4 && Region.binds .any e) && o7.after.any (fun e => e.on == 6 && Region.binds .any e) && o8.after.any (fun e => e.on == 0 && Region.binds .any e) && o9.after.any (fun e => e.on == 8 && Region.binds .any e) && o10.after.any (fun e => e.on == 7 && Region.binds .any e) && o10.after.any (fun e => e.on == 9 && Region.binds .any e)) = true)
    (hd : [t0, t1, t2, t3, t4, t5, t6, t7, t8, t9].Pairwise (· ≠ ·)) (hq : [t0, t1, t2, t3, t4, t5, t6, t7, t8, t9].all (fun t => t != q && t != V && decide (t < a.tmps.size)) = true)
    (hpq : a.eval (.tmp q) = .pointer (some ⟨gi, 0, none⟩)) (hpV : a.eval (.tmp V) = .pointer (some ⟨gv, 0, none⟩))
    (hfld : ∀ W, (Instr.fieldAt T2 (.pointer (some ⟨gi, 0, none⟩)) i).run P W = .ok (.pointer (some ⟨gi, i, none⟩)) W)
    (hld : ∀ W : World, W.heap[gi]? = some (.cells cI T (0, 0)) → (Instr.loadAt ts (.pointer (some ⟨gi, i, none⟩))).run P W = .ok vs W)
    (hlv : ∀ W : World, W.heap[gv]? = some (.cells cs TV (0, 0)) → (Instr.loadAt e (.pointer (some ⟨gv, 0, none⟩))).run P W = .ok (.agg cs) W)
    (hbd : ∀ W : World, (Instr.buildSlice ts 1 #[(0, .agg cs)]).run P W = .ok (.slice (some ⟨W.heap.size, 0, none⟩) 1 1) (W.alloc (.cells cs e)))
    (hI : w.heap[gi]? = some (.cells cI T (0, 0))) (hV : w.heap[gv]? = some (.cells cs TV (0, 0)))
    (hrun : (Builtin.append_ #[ts, ts] o7.type #[vs, .slice (some ⟨w.heap.size, 0, none⟩) 1 1]).run P (({ w with drawn := w.drawn + 1 } : World).alloc (.cells cs e)) = .ok v1 w1)
    (ht : (P.info? ts).map (·.size) = some 1) (hv : v1.cells.toList = [v1]) (hv1 : v1.oneCell' = true) (hI1 : w1.heap[gi]? = some (.cells c1 T (0, 0))) (hi : i < c1.size)
    (h : ∀ A w2, A = ((((((((((a.put (some t0) (.pointer (some ⟨gi, 0, none⟩))).put (some t1) (.pointer (some ⟨gi, 0, none⟩))).put (some t2) (.pointer (some ⟨gi, 0, none⟩))).put (some t3) (.pointer (some ⟨gi, i, none⟩))).put (some t4) vs).put (some t5) (.agg cs)).put (some t6) (.slice (some ⟨w.heap.size, 0, none⟩) 1 1)).put (some t7) v1).put (some t8) (.pointer (some ⟨gi, 0, none⟩))).put (some t9) (.pointer (some ⟨gi, i, none⟩))) →
      w2.heap[gi]? = some (.cells (c1.setIfInBounds i v1) T (0, 0)) → Tch (fun k => k = gi) w1 w2 → Q .normal A w2) : (Code.region id [o0, o1, o2, o3, o4, o5, o6, o7, o8, o9, o10].toArray true).wp P Q a w := by
  simp only [Bool.and_eq_true] at he
  obtain ⟨⟨⟨⟨⟨⟨⟨⟨⟨e2, e3⟩, e4⟩, e6⟩, e7⟩, e7'⟩, e8⟩, e9⟩, e10⟩, e10'⟩ := he
  simp only [List.all_cons, List.all_nil, Bool.and_true, Bool.and_eq_true, bne_iff_ne, decide_eq_true_eq] at hq
  obtain ⟨⟨⟨q0, r0⟩, z0⟩, ⟨⟨q1, r1⟩, z1⟩, ⟨⟨q2, r2⟩, z2⟩, ⟨⟨q3, r3⟩, z3⟩, ⟨⟨q4, r4⟩, z4⟩, ⟨⟨q5, r5⟩, z5⟩, ⟨⟨q6, r6⟩, z6⟩, ⟨⟨q7, r7⟩, z7⟩, ⟨⟨q8, r8⟩, z8⟩, ⟨q9, r9⟩, z9⟩ := hq
  let pI : Value := .pointer (some ⟨gi, 0, none⟩)
  let pF : Value := .pointer (some ⟨gi, i, none⟩)
  let sl : Value := .slice (some ⟨w.heap.size, 0, none⟩) 1 1
  let l : List (Nat × Tmp × Value) := [(0, t0, pI), (1, t1, pI), (2, t2, pI), (3, t3, pF), (4, t4, vs), (5, t5, .agg cs), (6, t6, sl), (7, t7, v1), (8, t8, pI), (9, t9, pF)]
  have hpw : l.Pairwise (fun p q => p.2.1 ≠ q.2.1) := List.pairwise_map.1 (show (l.map (fun p => p.2.1)).Pairwise (· ≠ ·) from hd)
  have fnd : ∀ p ∈ l, l.find? (fun x => x.2.1 == p.2.1) = some p := find_slot hpw
  have uni : ∀ p ∈ l, ∀ p' ∈ l, p'.1 = p.1 → p'.2.1 = p.2.1 := by
    intro p hp p' hp' hh
    simp only [l, List.mem_cons, List.not_mem_nil, or_false] at hp hp'
    rcases hp with rfl | rfl | rfl | rfl | rfl | rfl | rfl | rfl | rfl | rfl <;> rcases hp' with rfl | rfl | rfl | rfl | rfl | rfl | rfl | rfl | rfl | rfl <;> first | rfl | (exfalso; simp at hh; done)
  have fq : l.find? (fun x => x.2.1 == q) = none := List.find?_eq_none.2 (by
    intro x hx
    simp only [l, List.mem_cons, List.not_mem_nil, or_false] at hx
    rcases hx with rfl | rfl | rfl | rfl | rfl | rfl | rfl | rfl | rfl | rfl <;> (simp only [beq_iff_eq]; assumption))
  have fV : l.find? (fun x => x.2.1 == V) = none := List.find?_eq_none.2 (by
    intro x hx
    simp only [l, List.mem_cons, List.not_mem_nil, or_false] at hx
    rcases hx with rfl | rfl | rfl | rfl | rfl | rfl | rfl | rfl | rfl | rfl <;> (simp only [beq_iff_eq]; assumption))
  have m0 : (0, t0, pI) ∈ l := by simp [l]
  have m1 : (1, t1, pI) ∈ l := by simp [l]
  have m2 : (2, t2, pI) ∈ l := by simp [l]
  have m3 : (3, t3, pF) ∈ l := by simp [l]
  have m4 : (4, t4, vs) ∈ l := by simp [l]
  have m5 : (5, t5, .agg cs) ∈ l := by simp [l]
  have m6 : (6, t6, sl) ∈ l := by simp [l]
  have m7 : (7, t7, v1) ∈ l := by simp [l]
  have m8 : (8, t8, pI) ∈ l := by simp [l]
  have m9 : (9, t9, pF) ∈ l := by simp [l]
  let wr : World := { w with drawn := w.drawn + 1 }
  let wa : World := wr.alloc (.cells cs e)
  let w2 : World := w1.setCell ⟨gi, i, none⟩ v1
  let wd : (Nat → Bool) → World := fun f => if f 10 = true then w2 else if f 7 = true then w1 else if f 6 = true then wa else wr
  have hIr : wr.heap[gi]? = some (.cells cI T (0, 0)) := hI
  have hIa : wa.heap[gi]? = some (.cells cI T (0, 0)) := blk_box hIr _
  have waits : ∀ {o : Oper} {k : Nat} {f : Nat → Bool}, o.after.any (fun e => e.on == k && Region.binds .any e) = true → (∀ e ∈ o.after, Region.binds .any e = true → f e.on = true) → f k = true := fun {o k f} he hp => by
    rw [Array.any_eq_true] at he
    obtain ⟨i, hk, hk2⟩ := he
    simp only [Bool.and_eq_true, beq_iff_eq] at hk2
    have := hp _ (Array.getElem_mem hk) hk2.2
    rwa [hk2.1] at this
  have nf : ∀ {b : Bool}, (b = true → False) → b = false := fun {b} h => by cases b with
    | false => rfl
    | true => exact (h rfl).elim
  refine Go.Proofs.YtbccaabaplbmhaaGreatDoor.Grow.wp_region_inv (fun _ _ f A W => ((f 10 = true → f 7 = true) ∧ (f 7 = true → f 4 = true ∧ f 6 = true) ∧ (f 6 = true → f 5 = true)) ∧ Good l a f A ∧ W = wd f) hm hg hb ?_ ⟨?_, ?_, ?_, ?_, ?_, ?_, ?_, ?_, ?_, ?_, ?_, trivial⟩ ?_
  · exact ⟨⟨fun h => (by cases h), fun h => (by cases h), fun h => (by cases h)⟩, good_start fun _ => rfl, rfl⟩
  · intro f A W hp hn ⟨hf, hG, hW⟩
    unfold Oper.wp execOp
    simp only [h0.2, Sem.run_pure, good_out hG fq, hpq]
    refine ⟨by simpa using hf, by rw [h0.1]; exact good_put hG (fnd _ m0) (fun p hp => uni _ m0 p hp) z0, by rw [hW]; simp [wd]⟩
  · intro f A W hp hn ⟨hf, hG, hW⟩
    unfold Oper.wp execOp
    simp only [h1.2, Sem.run_pure, good_out hG fq, hpq]
    refine ⟨by simpa using hf, by rw [h1.1]; exact good_put hG (fnd _ m1) (fun p hp => uni _ m1 p hp) z1, by rw [hW]; simp [wd]⟩
  · intro f A W hp hn ⟨hf, hG, hW⟩
    have hx := good_eval hG (fnd _ m1) (waits e2 hp)
    unfold Oper.wp execOp
    simp only [h2.2, hx, pI, Sem.run_pure]
    refine ⟨by simpa using hf, by rw [h2.1]; exact good_put hG (fnd _ m2) (fun p hp => uni _ m2 p hp) z2, by rw [hW]; simp [wd]⟩
  · intro f A W hp hn ⟨hf, hG, hW⟩
    have hx := good_eval hG (fnd _ m2) (waits e3 hp)
    unfold Oper.wp execOp
    simp only [h3.2, hx, pI, Sem.run_bind, Sem.run_pure, Result.andThen_ok, hfld]
    refine ⟨by simpa using hf, by rw [h3.1]; exact good_put hG (fnd _ m3) (fun p hp => uni _ m3 p hp) z3, by rw [hW]; simp [wd]⟩
  · intro f A W hp hn ⟨hf, hG, hW⟩
    have hx := good_eval hG (fnd _ m3) (waits e4 hp)
    have f7 : f 7 = false := nf fun h => by rw [(hf.2.1 h).1] at hn; cases hn
    have f10 : f 10 = false := nf fun h => by rw [hf.1 h] at f7; cases f7
    have hWI : W.heap[gi]? = some (.cells cI T (0, 0)) := by
      rw [hW]; simp only [wd, f7, f10]
      cases f 6
      · exact hIr
      · exact hIa
    unfold Oper.wp execOp
    simp only [h4.2, hx, pF, Sem.run_bind, Sem.run_pure, Result.andThen_ok, hld W hWI]
    refine ⟨⟨by simpa using hf.1, fun h => absurd (show f 7 = true by simpa using h) (by rw [f7]; decide), by simpa using hf.2.2⟩, by rw [h4.1]; exact good_put hG (fnd _ m4) (fun p hp => uni _ m4 p hp) z4, by rw [hW]; simp [wd]⟩
  · intro f A W hp hn ⟨hf, hG, hW⟩
    have f6 : f 6 = false := nf fun h => by rw [hf.2.2 h] at hn; cases hn
    have f7 : f 7 = false := nf fun h => by rw [(hf.2.1 h).2] at f6; cases f6
    have f10 : f 10 = false := nf fun h => by rw [hf.1 h] at f7; cases f7
    have hWr : W = wr := by rw [hW]; simp [wd, f6, f7, f10]
    unfold Oper.wp execOp
    simp only [h5.2, good_out hG fV, hpV, Sem.run_bind, Sem.run_pure, Result.andThen_ok, hWr, hlv wr hV]
    refine ⟨⟨by simpa using hf.1, by simpa using hf.2.1, fun _ => by simp⟩, by rw [h5.1]; exact good_put hG (fnd _ m5) (fun p hp => uni _ m5 p hp) z5, by simp [wd, f6, f7, f10]⟩
  · intro f A W hp hn ⟨hf, hG, hW⟩
    have f5 := waits e6 hp
    have hx := good_eval hG (fnd _ m5) f5
    have f7 : f 7 = false := nf fun h => by rw [(hf.2.1 h).2] at hn; cases hn
    have f10 : f 10 = false := nf fun h => by rw [hf.1 h] at f7; cases f7
    have hWr : W = wr := by rw [hW]; simp [wd, hn, f7, f10]
    unfold Oper.wp execOp
    simp only [h6.2, List.map_toArray, List.map_cons, List.map_nil, hx, Sem.run_bind, Sem.run_pure, Result.andThen_ok, hWr, hbd]
    refine ⟨⟨by simpa using hf.1, fun h => absurd (show f 7 = true by simpa using h) (by rw [f7]; decide), fun _ => by rw [f5]; rfl⟩, by rw [h6.1]; exact good_put hG (fnd _ m6) (fun p hp => uni _ m6 p hp) z6, by simp [wd, f7, f10, wa]⟩
  · intro f A W hp hn ⟨hf, hG, hW⟩
    have f4 := waits e7 hp
    have f6 := waits e7' hp
    have hx := good_eval hG (fnd _ m4) f4
    have hy := good_eval hG (fnd _ m6) f6
    have f10 : f 10 = false := nf fun h => by rw [hf.1 h] at hn; cases hn
    have hWa : W = wa := by rw [hW]; simp [wd, hn, f6, f10]
    unfold Oper.wp execOp
    simp only [h7.2, resolve, invoke, builtin, Sem.run_bind, Sem.run_pure, Result.andThen_ok, List.map_toArray, List.map_cons, List.map_nil, hx, hy, hWa, sl, wa, wr, hrun]
    refine ⟨⟨fun _ => by simp, fun _ => by rw [f4, f6]; exact ⟨rfl, rfl⟩, by simpa using hf.2.2⟩, by rw [h7.1]; exact good_put hG (fnd _ m7) (fun p hp => uni _ m7 p hp) z7, by simp [wd, f10]⟩
  · intro f A W hp hn ⟨hf, hG, hW⟩
    have hx := good_eval hG (fnd _ m0) (waits e8 hp)
    unfold Oper.wp execOp
    simp only [h8.2, hx, pI, Sem.run_pure]
    refine ⟨by simpa using hf, by rw [h8.1]; exact good_put hG (fnd _ m8) (fun p hp => uni _ m8 p hp) z8, by rw [hW]; simp [wd]⟩
  · intro f A W hp hn ⟨hf, hG, hW⟩
    have hx := good_eval hG (fnd _ m8) (waits e9 hp)
    unfold Oper.wp execOp
    simp only [h9.2, hx, pI, Sem.run_bind, Sem.run_pure, Result.andThen_ok, hfld]
    refine ⟨by simpa using hf, by rw [h9.1]; exact good_put hG (fnd _ m9) (fun p hp => uni _ m9 p hp) z9, by rw [hW]; simp [wd]⟩
  · intro f A W hp hn ⟨hf, hG, hW⟩
    have f7 := waits e10 hp
    have hx := good_eval hG (fnd _ m7) f7
    have hy := good_eval hG (fnd _ m9) (waits e10' hp)
    have hW1 : W = w1 := by rw [hW]; simp [wd, hn, f7]
    have hrn : (Instr.storeAt ts (.pointer (some ⟨gi, i, none⟩)) v1).run P w1 = .ok () (w1.setCells gi i [v1]) := run_store_run ts v1 [v1] hI1 hv ht (by simp; omega) (by intro q hq; rw [List.mem_singleton.1 hq]; exact hv1)
    unfold Oper.wp execOp
    simp only [h10.2, hx, hy, pF, hW1, Sem.run_bind, Sem.run_pure, Result.andThen_ok, hrn]
    refine ⟨⟨fun _ => by rw [f7]; rfl, by simpa using hf.2.1, by simpa using hf.2.2⟩, ?_, by simp [wd, w2]; rfl⟩
    rw [h10.1]
    refine ⟨hG.1, hG.2.1, fun t => (hG.2.2 t).trans ?_⟩
    unfold look
    cases hfd : l.find? (fun p => p.2.1 == t) with
    | none => rfl
    | some p =>
      have hp := List.mem_of_find?_eq_some hfd
      have hj : (p.1 == 10) = false := by
        simp only [l, List.mem_cons, List.not_mem_nil, or_false] at hp
        rcases hp with rfl | rfl | rfl | rfl | rfl | rfl | rfl | rfl | rfl | rfl <;> rfl
      show (if f p.1 = true then _ else _) = if (f p.1 || p.1 == 10) = true then _ else _
      rw [hj, Bool.or_false]
  · rintro A W ⟨f, hf, _, hG, hW⟩
    have hw2 : W = w2 := by rw [hW]; simp only [wd]; rw [if_pos (hf 10 (by simp))]
    rw [hw2]
    refine h A w2 ?_ (blk_set hI1 i v1) (Tch.set rfl)
    have g0 : Good l a (fun _ => false) a := good_start fun _ => rfl
    have g1 := good_put g0 (fnd _ m0) (fun p hp => uni _ m0 p hp) z0
    have g2 := good_put g1 (fnd _ m1) (fun p hp => uni _ m1 p hp) z1
    have g3 := good_put g2 (fnd _ m2) (fun p hp => uni _ m2 p hp) z2
    have g4 := good_put g3 (fnd _ m3) (fun p hp => uni _ m3 p hp) z3
    have g5 := good_put g4 (fnd _ m4) (fun p hp => uni _ m4 p hp) z4
    have g6 := good_put g5 (fnd _ m5) (fun p hp => uni _ m5 p hp) z5
    have g7 := good_put g6 (fnd _ m6) (fun p hp => uni _ m6 p hp) z6
    have g8 := good_put g7 (fnd _ m7) (fun p hp => uni _ m7 p hp) z7
    have g9 := good_put g8 (fnd _ m8) (fun p hp => uni _ m8 p hp) z8
    have g10 := good_put g9 (fnd _ m9) (fun p hp => uni _ m9 p hp) z9
    refine good_one hG g10 fun p hp => ?_
    simp only [l, List.mem_cons, List.not_mem_nil, or_false] at hp
    rcases hp with rfl | rfl | rfl | rfl | rfl | rfl | rfl | rfl | rfl | rfl <;> (rw [hf _ (by simp)]; rfl)
end Go.Proofs.YtbccaabaplbmhaaGreatDoor.L1
namespace Go.Proofs.YtbccaabaplbmhaaGreatDoor.L1
open Go.RowKit Go.Proofs.YtbccaabaplbmhaaGreatDoorW.PrintWords Go.Proofs.YtbccaabaplbmhaaGreatDoor.B
set_option linter.unusedVariables false
set_option linter.unusedSimpArgs false

structure Place where (x y o c h : Int)
structure Veh where (room skills : Int) (home : Place)
structure Req where (size tags : Int) (from_ to_ : Place)
structure Road where (a b t : Int)
def Place.enc (p : Place) : List Value := [.int .i64 p.x, .int .i64 p.y, .int .i64 p.o, .int .i64 p.c, .int .i64 p.h]
def Veh.enc (v : Veh) : List Value := [.int .i64 v.room, .int .i64 v.skills, .int .i64 v.home.x, .int .i64 v.home.y, .int .i64 v.home.o, .int .i64 v.home.c, .int .i64 v.home.h]
def Req.enc (r : Req) : List Value := [.int .i64 r.size, .int .i64 r.tags, .int .i64 r.from_.x, .int .i64 r.from_.y, .int .i64 r.from_.o, .int .i64 r.from_.c, .int .i64 r.from_.h, .int .i64 r.to_.x, .int .i64 r.to_.y, .int .i64 r.to_.o, .int .i64 r.to_.c, .int .i64 r.to_.h]
def Road.enc (r : Road) : List Value := [.int .i64 r.a, .int .i64 r.b, .int .i64 r.t]
def kVeh : Kd Veh := Kd.flat 7 Veh.enc (fun _ => rfl) (by intro x u hu; simp [Veh.enc] at hu; rcases hu with rfl | rfl | rfl | rfl | rfl | rfl | rfl <;> rfl)
def kReq : Kd Req := Kd.flat 12 Req.enc (fun _ => rfl) (by intro x u hu; simp [Req.enc] at hu; rcases hu with rfl | rfl | rfl | rfl | rfl | rfl | rfl | rfl | rfl | rfl | rfl | rfl <;> rfl)
def kRoad : Kd Road := Kd.flat 3 Road.enc (fun _ => rfl) (by intro x u hu; simp [Road.enc] at hu; rcases hu with rfl | rfl | rfl <;> rfl)
def Place.val (p : Place) : Value := .agg #[.int .i64 p.x, .int .i64 p.y, .int .i64 p.o, .int .i64 p.c, .int .i64 p.h]
def zP : Place := ⟨0, 0, 0, 0, 0⟩
def zV : Veh := ⟨0, 0, zP⟩
def zQ : Req := ⟨0, 0, zP, zP⟩
def zR : Road := ⟨0, 0, 0⟩

def Place.good (p : Place) : Bool := inB p.x (-10000) 10000 && inB p.y (-10000) 10000 && inB p.o 0 p.c && decide (p.c ≤ 1000000) && inB p.h 0 1000000
def Veh.good (v : Veh) : Bool := inB v.room 0 1000000 && inB v.skills 0 65535 && v.home.good
def Req.good (r : Req) : Bool := inB r.size 0 10000 && inB r.tags 0 65535 && r.from_.good && r.to_.good
def Road.good (r : Road) (n : Int) : Bool := inB r.a 0 (n - 1) && inB r.b 0 (n - 1) && r.a != r.b && inB r.t 0 100000
def Road.lt (r s : Road) : Bool := decide (r.a < s.a ∨ (r.a = s.a ∧ r.b < s.b))

section
variable (w : World)
theorem spec_l1In (x lo hi : Int) : Calls Tryz.prog 35 #[.int .i64 x, .int .i64 lo, .int .i64 hi] w fun e w' => e = .returned (.bool (inB x lo hi)) ∧ w = w' := by
  go_enter Tryz.func35, Tryz.ntmps35
  go_wp2
  all_goals (go_ret; exact ⟨by simp [inB, *] <;> omega, rfl⟩)
theorem impl_within (x lo hi : Int) : Calls Tryz.prog 57 #[.int .i64 x, .int .i64 lo, .int .i64 hi] w fun e w' => e = .returned (.bool (inB x lo hi)) ∧ w = w' := by
  go_enter Tryz.func57, Tryz.ntmps57
  go_wp2
  all_goals (go_ret; exact ⟨by simp [inB, *] <;> omega, rfl⟩)

theorem spec_goodPlace (p : Place) : Calls Tryz.prog 36 #[.agg #[.int .i64 p.x, .int .i64 p.y, .int .i64 p.o, .int .i64 p.c, .int .i64 p.h]] w fun e w' => e = .returned (.bool p.good) ∧ Below w.heap.size w w' := by
  go_enter Tryz.func36, Tryz.ntmps36
  go_wp2_with (go_at_call 35; refine (spec_l1In _ _ _ _).mono ?_; rintro e w' ⟨rfl, rfl⟩)
  all_goals (go_ret; exact ⟨by simp [Place.good, *] <;> omega, (Below.refl _ _).alloc (Nat.le_refl _) _⟩)
theorem impl_goodPlace (p : Place) : Calls Tryz.prog 58 #[.agg #[.int .i64 p.x, .int .i64 p.y, .int .i64 p.o, .int .i64 p.c, .int .i64 p.h]] w fun e w' => e = .returned (.bool p.good) ∧ Below w.heap.size w w' := by
  go_enter Tryz.func58, Tryz.ntmps58
  go_wp2_with (go_at_call 57; refine (impl_within _ _ _ _).mono ?_; rintro e w' ⟨rfl, rfl⟩)
  all_goals (go_ret; refine ⟨?_, (Below.refl _ _).alloc (Nat.le_refl _) _⟩; simp_all [Place.good, inB] <;> omega)

theorem spec_goodVeh (v : Veh) : Calls Tryz.prog 13 #[.agg #[.int .i64 v.room, .int .i64 v.skills, .int .i64 v.home.x, .int .i64 v.home.y, .int .i64 v.home.o, .int .i64 v.home.c, .int .i64 v.home.h]] w fun e w' => e = .returned (.bool v.good) ∧ Below w.heap.size w w' := by
  go_enter Tryz.func13, Tryz.ntmps13
  go_wp2_with (first | (go_at_call 35; refine (spec_l1In _ _ _ _).mono ?_; rintro e w' ⟨rfl, rfl⟩) | (go_at_call 36; refine (spec_goodPlace _ v.home).mono ?_; rintro e w' ⟨rfl, hb⟩))
  all_goals go_ret
  · exact ⟨by simp [Veh.good, *], ((Below.refl _ _).alloc (Nat.le_refl _) _).trans (‹Below _ _ _›.mono (by simp))⟩
  all_goals exact ⟨by simp [Veh.good, *], (Below.refl _ _).alloc (Nat.le_refl _) _⟩
end
end Go.Proofs.YtbccaabaplbmhaaGreatDoor.L1
namespace Go.Proofs.YtbccaabaplbmhaaGreatDoor.L1
open Go.RowKit Go.Proofs.YtbccaabaplbmhaaGreatDoorW.PrintWords Go.Proofs.YtbccaabaplbmhaaGreatDoor.B
set_option linter.unusedVariables false
set_option linter.unusedSimpArgs false
section
variable (w : World)
end
end Go.Proofs.YtbccaabaplbmhaaGreatDoor.L1
namespace Go.Proofs.YtbccaabaplbmhaaGreatDoor.L1
open Go.RowKit Go.Proofs.YtbccaabaplbmhaaGreatDoorW.PrintWords Go.Proofs.YtbccaabaplbmhaaGreatDoor.B
set_option linter.unusedVariables false
set_option linter.unusedSimpArgs false

structure Inst where (vs : List Veh) (qs : List Req) (rs : List Road)
/-- An instance that is read. -/
def ReadInst (w : World) (v : Value) (x : Inst) : Prop := ∃ A0 c0 A1 c1 A2 c2, v = .agg #[.slice A0 x.vs.length c0, .slice A1 x.qs.length c1, .slice A2 x.rs.length c2] ∧
  kVeh.C w A0 x.vs.length x.vs ∧ kReq.C w A1 x.qs.length x.qs ∧ kRoad.C w A2 x.rs.length x.rs
/-- An instance of the call's own: three rows, each elsewhere. -/
def OwnInst (w : World) (base : Nat) (v : Value) (x : Inst) : Prop := ∃ v0 v1 v2 s1 s2, v = .agg #[v0, v1, v2] ∧ kVeh.R 45 w base (fun b => b < s1) v0 x.vs ∧ kReq.R 48 w base (fun b => s1 ≤ b ∧ b < s2) v1 x.qs ∧ kRoad.R 51 w base (fun b => s2 ≤ b) v2 x.rs
theorem ReadInst.below {w w1 : World} {v : Value} {x : Inst} (h : ReadInst w v x) (hb : Below w.heap.size w w1) : ReadInst w1 v x := by
  obtain ⟨A0, c0, A1, c1, A2, c2, rfl, h0, h1, h2⟩ := h
  exact ⟨A0, c0, A1, c1, A2, c2, rfl, Kd.C_below h0 hb, Kd.C_below h1 hb, Kd.C_below h2 hb⟩
theorem OwnInst.read {w : World} {base : Nat} {v : Value} {x : Inst} (h : OwnInst w base v x) : ReadInst w v x := by
  obtain ⟨v0, v1, v2, s1, s2, rfl, h0, h1, h2⟩ := h
  obtain ⟨A0, c0, rfl, _, r0⟩ := Kd.R_reads h0
  obtain ⟨A1, c1, rfl, _, r1⟩ := Kd.R_reads h1
  obtain ⟨A2, c2, rfl, _, r2⟩ := Kd.R_reads h2
  exact ⟨A0, c0, A1, c1, A2, c2, rfl, r0, r1, r2⟩
theorem OwnInst.below {w w1 : World} {base : Nat} {v : Value} {x : Inst} (h : OwnInst w base v x) (hb : Below w.heap.size w w1) : OwnInst w1 base v x := by
  obtain ⟨v0, v1, v2, s1, s2, rfl, h0, h1, h2⟩ := h
  exact ⟨v0, v1, v2, s1, s2, rfl, Kd.R_below h0 hb, Kd.R_below h1 hb, Kd.R_below h2 hb⟩
/-- Few enough for every count. -/
def Inst.small (x : Inst) : Prop := x.vs.length ≤ 1048576 ∧ x.qs.length ≤ 1048576 ∧ x.rs.length ≤ 1048576
section
variable (w : World)
end
end Go.Proofs.YtbccaabaplbmhaaGreatDoor.L1
namespace Go.Proofs.YtbccaabaplbmhaaGreatDoor.L1
open Go.RowKit Go.Proofs.YtbccaabaplbmhaaGreatDoorW.PrintWords Go.Proofs.YtbccaabaplbmhaaGreatDoor.B
set_option linter.unusedVariables false
set_option linter.unusedSimpArgs false

def roadAt (n : Int) (rs : List Road) (k : Nat) : Bool := (rs.getD k zR).good n && (decide (k = 0) || (rs.getD (k - 1) zR).lt (rs.getD k zR))
def Inst.nodes (x : Inst) : Int := x.vs.length + 2 * x.qs.length
def Inst.few (x : Inst) : Bool := decide (x.vs.length ≤ 64) && decide (x.qs.length ≤ 1000) && decide (x.rs.length ≤ 4000)
def Inst.valid (x : Inst) : Bool := x.few && allI x.vs.length (fun k => (x.vs.getD k zV).good) && allI x.qs.length (fun k => (x.qs.getD k zQ).good) && allI x.rs.length (roadAt x.nodes x.rs)

section
variable (w : World)
end
end Go.Proofs.YtbccaabaplbmhaaGreatDoor.L1
namespace Go.Proofs.YtbccaabaplbmhaaGreatDoor.L1
open Go.RowKit Go.Proofs.YtbccaabaplbmhaaGreatDoorW.PrintWords Go.Proofs.YtbccaabaplbmhaaGreatDoor.B
set_option linter.unusedVariables false
set_option linter.unusedSimpArgs false
attribute [local go_sem] mk_cell mk_frozen
def cmp (x y : Int) : Int := if x < y then -1 else if y < x then 1 else 0
def Road.cmp (r s : Road) : Int := if L1.cmp r.a s.a = 0 then L1.cmp r.b s.b else L1.cmp r.a s.a
theorem Road.cmp_neg (r s : Road) : r.cmp s < 0 ↔ r.lt s = true := by
  unfold Road.cmp L1.cmp Road.lt
  rw [decide_eq_true_iff]
  (repeat' split) <;> omega
section
variable (w : World)
theorem isNaN (x : Int) : Calls Tryz.prog 71 #[.int .i64 x] w fun e w' => e = .returned (.bool false) ∧ w = w' := by
  go_enter Tryz.func71, Tryz.ntmps71
  go_wp2
  go_ret
  exact ⟨by simp, rfl⟩
theorem compare (x y : Int) : Calls Tryz.prog 62 #[.int .i64 x, .int .i64 y] w fun e w' => e = .returned (.int .i64 (cmp x y)) ∧ w = w' := by
  go_enter Tryz.func62, Tryz.ntmps62
  go_wp2_with (go_at_call 71; refine (isNaN _ _).mono ?_; rintro e w' ⟨rfl, rfl⟩)
  all_goals (go_ret; exact ⟨by simp [cmp, *] <;> omega, rfl⟩)
/-- cmp.Or over a pair. -/
theorem or2 (x y : Int) (g : Nat) (h0 : w.cell? ⟨g, 0, none⟩ = some (.int .i64 x)) (h1 : w.cell? ⟨g, 1, none⟩ = some (.int .i64 y)) :
    Calls Tryz.prog 61 #[.slice (some ⟨g, 0, none⟩) 2 2] w fun e w' => e = .returned (.int .i64 (if x = 0 then y else x)) ∧ w = w' := by
  by_cases hx : x = 0
  · subst hx
    by_cases hy : y = 0
    · subst hy
      go_enter Tryz.func61, Tryz.ntmps61
      go_wp2
      refine wp_loop_rounds 3 ?_
      rw [rounds_succ]; go_wp2
      rw [rounds_succ]; go_wp2
      rw [rounds_succ]; go_wp2
      go_ret
      exact ⟨rfl, rfl⟩
    · have hb : (y != 0) = true := by simp [hy]
      go_enter Tryz.func61, Tryz.ntmps61
      go_wp2
      refine wp_loop_rounds 2 ?_
      rw [rounds_succ]; go_wp2
      rw [rounds_succ]; go_wp2
      go_ret
      exact ⟨rfl, rfl⟩
  · have hb : (x != 0) = true := by simp [hx]
    go_enter Tryz.func61, Tryz.ntmps61
    go_wp2
    refine wp_loop_rounds 1 ?_
    rw [rounds_succ]; go_wp2
    go_ret
    exact ⟨by first | rfl | (simp [hx]; done), rfl⟩
set_option maxRecDepth 100000 in
theorem impl_compare (r s : Road) : Calls Tryz.prog 41 #[.agg #[.int .i64 r.a, .int .i64 r.b, .int .i64 r.t], .agg #[.int .i64 s.a, .int .i64 s.b, .int .i64 s.t]] w fun e w' => e = .returned (.int .i64 (r.cmp s)) ∧ Below w.heap.size w w' := by
  go_enter Tryz.func41, Tryz.ntmps41
  go_wp2_with fail
  go_still_tail 10, (by kernel_rfl)
  still_call ((compare _ r.a s.a).mono fun e w' h => ⟨h.1, h.2.symm⟩)
  repeat still_step
  still_call ((compare _ r.b s.b).mono fun e w' h => ⟨h.1, h.2.symm⟩)
  refine wpStill_nil ?_
  go_wp2_with fail
  refine (or2 _ (L1.cmp r.a s.a) (L1.cmp r.b s.b) _ (by go_simp) (by go_simp)).mono ?_
  rintro e w1 ⟨rfl, rfl⟩
  go_wp2
  all_goals go_ret
  all_goals exact ⟨by simp [Road.cmp, *], below_alloc (below_drew (below_alloc (below_alloc (Below.refl _ _) _) _)) _⟩
theorem spec_goodRoad (r : Road) (n : Int) (h0 : 0 ≤ n) (h1 : n ≤ 100000000) : Calls Tryz.prog 15 #[.agg #[.int .i64 r.a, .int .i64 r.b, .int .i64 r.t], .int .i64 n] w fun e w' => e = .returned (.bool (r.good n)) ∧ Below w.heap.size w w' := by
  go_enter Tryz.func15, Tryz.ntmps15
  go_wp2_with (go_at_call 35; refine (spec_l1In _ _ _ _).mono ?_; rintro e w' ⟨rfl, rfl⟩)
  all_goals (go_ret; exact ⟨by simp_all [Road.good], below_alloc (Below.refl _ _) _⟩)
theorem impl_goodRoad (r : Road) (n : Int) (h0 : 0 ≤ n) (h1 : n ≤ 100000000) : Calls Tryz.prog 39 #[.agg #[.int .i64 r.a, .int .i64 r.b, .int .i64 r.t], .int .i64 n] w fun e w' => e = .returned (.bool (r.good n)) ∧ Below w.heap.size w w' := by
  go_enter Tryz.func39, Tryz.ntmps39
  go_wp2_with (go_at_call 57; refine (impl_within _ _ _ _).mono ?_; rintro e w' ⟨rfl, rfl⟩)
  all_goals (go_ret; exact ⟨by simp_all [Road.good], below_alloc (Below.refl _ _) _⟩)
theorem spec_before (r s : Road) : Calls Tryz.prog 17 #[.agg #[.int .i64 r.a, .int .i64 r.b, .int .i64 r.t], .agg #[.int .i64 s.a, .int .i64 s.b, .int .i64 s.t]] w fun e w' => e = .returned (.bool (r.lt s)) ∧ Below w.heap.size w w' := by
  go_enter Tryz.func17, Tryz.ntmps17
  go_wp2
  all_goals (go_ret; exact ⟨by simp_all [Road.lt] <;> omega, below_alloc (below_alloc (Below.refl _ _) _) _⟩)
theorem impl_goodVeh (v : Veh) : Calls Tryz.prog 37 #[.agg #[.int .i64 v.room, .int .i64 v.skills, .int .i64 v.home.x, .int .i64 v.home.y, .int .i64 v.home.o, .int .i64 v.home.c, .int .i64 v.home.h]] w fun e w' => e = .returned (.bool v.good) ∧ Below w.heap.size w w' := by
  go_enter Tryz.func37, Tryz.ntmps37
  go_wp2_with (first | (go_at_call 57; refine (impl_within _ _ _ _).mono ?_; rintro e w' ⟨rfl, rfl⟩) | (go_at_call 58; refine (impl_goodPlace _ v.home).mono ?_; rintro e w' ⟨rfl, hb⟩))
  all_goals go_ret
  · exact ⟨by simp [Veh.good, *], bel_call (below_alloc (Below.refl _ _) _) ‹Below _ _ _›⟩
  all_goals exact ⟨by simp [Veh.good, *], below_alloc (Below.refl _ _) _⟩
theorem spec_goodReq (v : Req) : Calls Tryz.prog 14 #[.agg #[.int .i64 v.size, .int .i64 v.tags, .int .i64 v.from_.x, .int .i64 v.from_.y, .int .i64 v.from_.o, .int .i64 v.from_.c, .int .i64 v.from_.h, .int .i64 v.to_.x, .int .i64 v.to_.y, .int .i64 v.to_.o, .int .i64 v.to_.c, .int .i64 v.to_.h]] w fun e w' => e = .returned (.bool v.good) ∧ Below w.heap.size w w' := by
  go_enter Tryz.func14, Tryz.ntmps14
  go_wp2_with (first | (go_at_call 35; refine (spec_l1In _ _ _ _).mono ?_; rintro e w' ⟨rfl, rfl⟩) | (go_at_call 36; ((with_reducible refine (spec_goodPlace _ v.from_).mono ?_); rintro e w1 ⟨rfl, hb1⟩; obtain ⟨hc1, hf1⟩ := bcell hb1)) | (go_at_call 36; ((with_reducible refine (spec_goodPlace _ v.to_).mono ?_); rintro e w2 ⟨rfl, hb2⟩)))
  all_goals go_ret
  all_goals exact ⟨by simp_all [Req.good], by with_reducible repeat (first | refine bel_call ?_ hb2 | refine bel_call ?_ hb1 | exact below_alloc (Below.refl _ _) _)⟩
theorem impl_goodReq (v : Req) : Calls Tryz.prog 38 #[.agg #[.int .i64 v.size, .int .i64 v.tags, .int .i64 v.from_.x, .int .i64 v.from_.y, .int .i64 v.from_.o, .int .i64 v.from_.c, .int .i64 v.from_.h, .int .i64 v.to_.x, .int .i64 v.to_.y, .int .i64 v.to_.o, .int .i64 v.to_.c, .int .i64 v.to_.h]] w fun e w' => e = .returned (.bool v.good) ∧ Below w.heap.size w w' := by
  go_enter Tryz.func38, Tryz.ntmps38
  go_wp2_with (first | (go_at_call 57; refine (impl_within _ _ _ _).mono ?_; rintro e w' ⟨rfl, rfl⟩) | (go_at_call 58; ((with_reducible refine (impl_goodPlace _ v.from_).mono ?_); rintro e w1 ⟨rfl, hb1⟩; obtain ⟨hc1, hf1⟩ := bcell hb1)) | (go_at_call 58; ((with_reducible refine (impl_goodPlace _ v.to_).mono ?_); rintro e w2 ⟨rfl, hb2⟩)))
  all_goals go_ret
  all_goals exact ⟨by simp_all [Req.good], by with_reducible repeat (first | refine bel_call ?_ hb2 | refine bel_call ?_ hb1 | exact below_alloc (Below.refl _ _) _)⟩
theorem spec_nodes (A0 A1 A2 : Option Addr) (n0 n1 n2 c0 c1 c2 : Nat) (h0 : n0 ≤ 1048576) (h1 : n1 ≤ 1048576) : Calls Tryz.prog 16 #[.agg #[.slice A0 n0 c0, .slice A1 n1 c1, .slice A2 n2 c2]] w fun e w' => e = .returned (.int .i64 ((n0 : Int) + 2 * (n1 : Int))) ∧ Below w.heap.size w w' := by
  go_enter Tryz.func16, Tryz.ntmps16
  go_wp2
  go_ret
  exact ⟨rfl, below_alloc (Below.refl _ _) _⟩
theorem impl_vehicles (A0 A1 A2 : Option Addr) (n0 n1 n2 c0 c1 c2 : Nat) (h0 : n0 ≤ 1048576) : Calls Tryz.prog 59 #[.agg #[.slice A0 n0 c0, .slice A1 n1 c1, .slice A2 n2 c2]] w fun e w' => e = .returned (.int .i64 (n0 : Int)) ∧ Below w.heap.size w w' := by
  go_enter Tryz.func59, Tryz.ntmps59
  go_wp2
  go_ret
  exact ⟨rfl, below_alloc (Below.refl _ _) _⟩
theorem impl_requests (A0 A1 A2 : Option Addr) (n0 n1 n2 c0 c1 c2 : Nat) (h1 : n1 ≤ 1048576) : Calls Tryz.prog 60 #[.agg #[.slice A0 n0 c0, .slice A1 n1 c1, .slice A2 n2 c2]] w fun e w' => e = .returned (.int .i64 (n1 : Int)) ∧ Below w.heap.size w w' := by
  go_enter Tryz.func60, Tryz.ntmps60
  go_wp2
  go_ret
  exact ⟨rfl, below_alloc (Below.refl _ _) _⟩
/-- What a region reads stays, and memory only grows. -/
theorem keep3 {w W w1 : World} {g : Nat} {a b c : Value} (h : W.cell? ⟨g, 0, none⟩ = some a ∧ W.cell? ⟨g, 1, none⟩ = some b ∧ W.cell? ⟨g, 2, none⟩ = some c ∧ Below w.heap.size w W) (hb : Below W.heap.size W w1) :
    w1.cell? ⟨g, 0, none⟩ = some a ∧ w1.cell? ⟨g, 1, none⟩ = some b ∧ w1.cell? ⟨g, 2, none⟩ = some c ∧ Below w.heap.size w w1 :=
  ⟨pw_cell_below hb h.1, pw_cell_below hb h.2.1, pw_cell_below hb h.2.2.1, bel_call h.2.2.2 hb⟩
theorem impl_nodes (A0 A1 A2 : Option Addr) (n0 n1 n2 c0 c1 c2 : Nat) (h0 : n0 ≤ 1048576) (h1 : n1 ≤ 1048576) : Calls Tryz.prog 40 #[.agg #[.slice A0 n0 c0, .slice A1 n1 c1, .slice A2 n2 c2]] w fun e w' => e = .returned (.int .i64 ((n0 : Int) + 2 * (n1 : Int))) ∧ Below w.heap.size w w' := by
  go_enter Tryz.func40, Tryz.ntmps40
  go_wp2_with fail
  go_region_held3 (fun w' => w'.cell? ⟨w.heap.size, 0, none⟩ = some (.slice A0 n0 c0) ∧ w'.cell? ⟨w.heap.size, 1, none⟩ = some (.slice A1 n1 c1) ∧ w'.cell? ⟨w.heap.size, 2, none⟩ = some (.slice A2 n2 c2) ∧ Below w.heap.size w w')
    (first | exact ⟨blk_cell (al_new w _) 0, blk_cell (al_new w _) 1, blk_cell (al_new w _) 2, below_drew (below_alloc (Below.refl _ _) _)⟩ | exact keep3 (by assumption) hb1)
    (first | (go_at_call 59; refine (impl_vehicles _ A0 A1 A2 n0 n1 n2 c0 c1 c2 h0).mono ?_; rintro e w1 ⟨rfl, hb1⟩) | (go_at_call 60; refine (impl_requests _ A0 A1 A2 n0 n1 n2 c0 c1 c2 h1).mono ?_; rintro e w1 ⟨rfl, hb1⟩))
  have hB := (by assumption : w1.cell? ⟨w.heap.size, 0, none⟩ = some (.slice A0 n0 c0) ∧ w1.cell? ⟨w.heap.size, 1, none⟩ = some (.slice A1 n1 c1) ∧ w1.cell? ⟨w.heap.size, 2, none⟩ = some (.slice A2 n2 c2) ∧ Below w.heap.size w w1).2.2.2
  have e1 : IntKind.i64.wrap (2 * (n1 : Int)) = 2 * (n1 : Int) := IntWalk.i64_in _ (by omega)
  have e2 : IntKind.i64.wrap ((n0 : Int) + 2 * (n1 : Int)) = (n0 : Int) + 2 * (n1 : Int) := IntWalk.i64_in _ (by omega)
  rw [e1, e2]
  clear e1 e2
  go_wp2
  go_ret
  exact ⟨rfl, hB⟩
end
end Go.Proofs.YtbccaabaplbmhaaGreatDoor.L1
