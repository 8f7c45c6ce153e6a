/- A region whose first operations each give one value, whose rest is walked in any order; a call's pair of answers laid and stored. A text of an instance, as the reference reads it. A region whose first operations are planned (makers among them), whose rest is walked in any order; an append stored into a field behind such a prefix. A line's words as the program cuts them; what a line's reader leaves. A line, as the program reads it: kind 0. -/
import Derived.Test.YtogjkkbhmanbmaaGreatDoorQP6
import Derived.Test.YtogjkkbhmanbmaaGreatDoorQP3
import Derived.Test.YtogjkkbhmanbmaaGreatDoorQP9
import Derived.Test.YtogjkkbhmanbmaaGreatDoorQP10
import Derived.Test.YtogjkkbhmanbmaaGreatDoorQP11
import Derived.Test.YtogjkkbhmanbmaaGreatDoorQP8
import Derived.Deep.Cut
import Derived.Deep.CutRange
set_option linter.unusedVariables false
namespace Go.Proofs.YtogjkkbhmanbmaaGreatDoor.Grow
open Go.RowKit Go.Proofs.YtogjkkbhmanbmaaGreatDoorW.PrintWords Go.Proofs.YtogjkkbhmanbmaaGreatDoor.B
section
variable {P : Program}
def prefB (md : Region.Mode) (ops : Array Oper) (m : Nat) : Bool :=
  Region.noSelect ops && blindB ops m [] && cutB md ops m && lexTo md ops m 0 (Array.replicate ops.size false) && (Region.ready md ops (doneTo m 0 (Array.replicate ops.size false))).all (fun j => decide (m ≤ j)) && decide (m ≤ ops.size)
theorem wp_region_prefix {id : Nat} {Q : Exit → Act → World → Prop} {a : Act} {w : World} {l : List Oper} (m : Nat) (hm : P.follows .mixedOrders = true) (hB : prefB .any l.toArray m = true)
    (h : LexP P l.toArray w noMakers (fun a' => ∀ W, Up w W → wpAny P .any l.toArray Q (l.length - m) (doneTo m 0 (Array.replicate l.toArray.size false)) a' W) 0 (l.take m) a) : (Code.region id l.toArray true).wp P Q a w := by
  unfold prefB at hB
  simp only [Bool.and_eq_true, decide_eq_true_eq] at hB
  obtain ⟨⟨⟨⟨⟨h1, h2⟩, h3⟩, h4⟩, h5⟩, h7⟩ := hB
  have hmle : m ≤ l.length := by have : l.toArray.size = l.length := by simp
                                 omega
  have hlt : (l.take m).length = m := by simp; omega
  refine wp_region_any hm ?_
  have hA := anyP_lex (md := .any) (P := P) (ops := l.toArray) (w0 := w) (M := noMakers) (m := m) (L := doneTo m 0 (Array.replicate l.toArray.size false)) (K := _) h3 h1 (fun j hj => of_decide_eq_true (List.all_eq_true.1 h5 j hj)) (l.take m) 0 (Array.replicate l.toArray.size false) a
    (fun i o _ hi => by rw [getD_replicate_false] at hi; cases hi) (by rw [hlt]; omega) (fun j o hj => by
      rw [Nat.zero_add]
      have hjm : j < m := by have := (List.getElem?_eq_some_iff.1 hj).1; omega
      rw [List.getElem?_take_of_lt hjm] at hj
      simpa using hj) (by rw [hlt]; exact h4) (by rw [hlt]) h
  rw [hlt] at hA
  have hS := anyP_sound (md := .any) (P := P) (ops := l.toArray) (w0 := w) (M := noMakers) (Q := Q) (m := m) (f := l.length - m) (L := doneTo m 0 (Array.replicate l.toArray.size false)) h1 h2 List.Pairwise.nil (fun a' u lo hi W hK hW hk => hK W hW)
    m (Array.replicate l.toArray.size false) a (fun _ => undef) (fun _ => 0) (fun _ => 0) { w with drawn := w.drawn + 1 } (by simp) (fun i o _ hi => by rw [getD_replicate_false] at hi; cases hi) hA ⟨below_drew (Below.refl _ _)⟩
    ⟨fun i _ hi => (by rw [getD_replicate_false] at hi; cases hi), fun i j _ _ hj _ => (by rw [getD_replicate_false] at hj; cases hj)⟩
  have e : l.length - m + m = l.toArray.size := by simp; omega
  rw [e] at hS
  exact hS
theorem any_one {md : Region.Mode} {ops : Array Oper} {Q : Exit → Act → World → Prop} {n i : Nat} {L L' : Array Bool} {a : Act} {w : World} {o : Oper} (hr : Region.ready md ops L = [i]) (hi : ops[i]? = some o) (hg : o.guard = none) (hL : L.setIfInBounds i true = L')
    (h : ∀ K : Act → World → Prop, (∀ a' w', wpAny P md ops Q n L' a' w' → K a' w') → o.wp P a w K Q) : wpAny P md ops Q (n + 1) L a w := by
  refine ⟨fun h0 => (by rw [hr] at h0; cases h0), fun j hj => ?_⟩
  rw [hr, List.mem_singleton] at hj
  subst hj
  unfold wpOp
  have hw : Region.wanted o (yielded ops a.tmps) = true := by unfold Region.wanted; rw [hg]
  simp only [hi, hw, if_true]
  rw [hL]
  exact .inl (wp_opaque h)
theorem Steps_of {ops : Array Oper} {md : Region.Mode} {I : (Nat → Bool) → Act → World → Prop} {Q : Exit → Act → World → Prop} : ∀ (l : List Oper) (k : Nat), (∀ j o, l[j]? = some o → Step P ops md I Q (k + j) o) → Steps P ops md I Q k l
  | [], _, _ => trivial
  | x :: l, k, h => ⟨h 0 x rfl, Steps_of l (k + 1) fun j o hj => by have := h (j + 1) o (by simpa using hj); rwa [show k + (j + 1) = k + 1 + j by omega] at this⟩
end
end Go.Proofs.YtogjkkbhmanbmaaGreatDoor.Grow
namespace Go.Proofs.YtogjkkbhmanbmaaGreatDoor.L1
open Go.RowKit Go.Proofs.YtogjkkbhmanbmaaGreatDoorW.PrintWords Go.Proofs.YtogjkkbhmanbmaaGreatDoor.B
/-- 'e, s = f(..)' behind the call: the pair is parted, the number laid, the struct's block written, in any order that the edges allow. -/
theorem any_pair {P : Program} {ops : Array Oper} {Q : Exit → Act → World → Prop} {n m : Nat} {L : Array Bool} {a : Act} {w : World} {o0 o1 o2 o3 : Oper}
    (r a0 b0 c0 j : Tmp) (ty To : TypeId) (x0 : Value) {gO : Nat} {cs co : List Value}
    (hsz : ops.size = m + 4) (p0 : ops[m]? = some o0) (p1 : ops[m + 1]? = some o1) (p2 : ops[m + 2]? = some o2) (p3 : ops[m + 3]? = some o3)
    (hL : L.size = ops.size) (hdone : ∀ i, i < m → L.getD i false = true) (hopen : ∀ i, i < m + 4 → m ≤ i → L.getD i false = false) (hn : L.toList.count false ≤ n)
    (h0 : o0.dst = some a0 ∧ o0.op = .extract (.tmp r) 0) (h1 : o1.dst = some b0 ∧ o1.op = .extract (.tmp r) 1) (h2 : o2.dst = some c0 ∧ o2.op = .assign (.tmp a0)) (h3 : o3.dst = none ∧ o3.op = .store ty (.tmp j) (.tmp b0))
    (hg : ops.toList.all (fun o => o.guard.isNone) = true) (hb : Go.Proofs.YtogjkkbhmanbmaaGreatDoor.Grow.backB .any ops = true)
    (e2 : o2.after.any (fun e => e.on == m && Region.binds .any e) = true) (e3 : o3.after.any (fun e => e.on == m + 1 && Region.binds .any e) = true)
    (hne : (r ≠ a0 ∧ r ≠ b0 ∧ r ≠ c0) ∧ (j ≠ a0 ∧ j ≠ b0 ∧ j ≠ c0) ∧ a0 ≠ b0 ∧ a0 ≠ c0 ∧ b0 ≠ c0) (hs : a0 < a.tmps.size ∧ b0 < a.tmps.size)
    (hr : a.eval (.tmp r) = .tuple #[x0, .agg cs.toArray]) (hpj : a.eval (.tmp j) = .pointer (some ⟨gO, 0, none⟩))
    (hi : (P.info? ty).map (·.size) = some cs.length) (hl : cs.length = co.length) (hO : w.heap[gO]? = some (.cells co.toArray To (0, 0))) (hc : ∀ q ∈ cs, q.oneCell' = true)
    (h : ∀ w1, w1.heap[gO]? = some (.cells cs.toArray To (0, 0)) → Tch (fun k => k = gO) w w1 → Q .normal (((a.put (some a0) x0).put (some b0) (.agg cs.toArray)).put (some c0) x0) w1) : wpAny P .any ops Q n L a w := by
  obtain ⟨⟨ra, rb, rc⟩, ⟨ja, jb, jc⟩, ab, ac, bc⟩ := hne
  let old : Tmp → Value := fun d => a.tmps.getD d undef
  let mk : (Nat → Bool) → Act := fun f => ((a.put (some a0) (if f m = true then x0 else old a0)).put (some b0) (if f (m + 1) = true then .agg cs.toArray else old b0)).put (some c0) (if f (m + 2) = true then x0 else old c0)
  have ev : ∀ f (t : Tmp), t ≠ a0 → t ≠ b0 → t ≠ c0 → (mk f).eval (.tmp t) = a.eval (.tmp t) := fun f t h1 h2 h3 => by
    show (((a.put _ _).put _ _).put _ _).eval _ = _
    rw [act_eval_ne _ h3, act_eval_ne _ h2, act_eval_ne _ h1]
  have eva : ∀ f, f m = true → (mk f).eval (.tmp a0) = x0 := fun f hf => by
    show (((a.put _ _).put _ _).put _ _).eval _ = _
    rw [act_eval_ne _ ac, act_eval_ne _ ab, act_eval_eq _ hs.1, if_pos hf]
  have evb : ∀ f, f (m + 1) = true → (mk f).eval (.tmp b0) = .agg cs.toArray := fun f hf => by
    show (((a.put _ _).put _ _).put _ _).eval _ = _
    rw [act_eval_ne _ bc, act_eval_eq _ (by rw [act_size]; exact hs.2), if_pos hf]
  have waits : ∀ {o : Oper} {k : Nat} {f : Nat → Bool}, o.after.any (fun e => e.on == k && Region.binds .any e) = true → (∀ e ∈ o.after, Region.binds .any e = true → f e.on = true) → f k = true := fun {o k f} he hp => by
    rw [Array.any_eq_true] at he
    obtain ⟨i, hk, hk2⟩ := he
    simp only [Bool.and_eq_true, beq_iff_eq] at hk2
    have := hp _ (Array.getElem_mem hk) hk2.2
    rwa [hk2.1] at this
  refine Go.Proofs.YtogjkkbhmanbmaaGreatDoor.Grow.any_inv (I := fun f A W => (∀ i, i < m → f i = true) ∧ A = mk f ∧ Tch (fun k => k = gO) w W ∧ W.heap[gO]? = some (.cells (if f (m + 3) = true then cs.toArray else co.toArray) To (0, 0))) hg hb (Go.Proofs.YtogjkkbhmanbmaaGreatDoor.Grow.Steps_of _ 0 ?_) ?_ n L a w hL hn ?_
  · intro i o hio f A W hp hn ⟨hd, hA, hT, hW⟩
    rw [Nat.zero_add] at hn ⊢
    have hi' : i < m + 4 := by have := (List.getElem?_eq_some_iff.1 hio).1; rw [Array.length_toList, hsz] at this; exact this
    have him : m ≤ i := by
      rcases Nat.lt_or_ge i m with h | h
      · rw [hd i h] at hn; cases hn
      · exact h
    have hop : ops[i]? = some o := by simpa using hio
    have hd' : ∀ k, k < m → (f k || k == i) = true := fun k hk => by rw [hd k hk]; rfl
    have kk : ∀ k : Nat, (k == k) = true := fun k => beq_self_eq_true k
    have kn : ∀ k l : Nat, k ≠ l → (k == l) = false := fun k l h => beq_false_of_ne h
    rcases (show i = m ∨ i = m + 1 ∨ i = m + 2 ∨ i = m + 3 by omega) with rfl | rfl | rfl | rfl
    · obtain rfl : o0 = o := by rw [p0] at hop; injection hop
      have hx : (Instr.extract (A.eval (.tmp r)) 0).run P W = .ok x0 W := by rw [hA, ev f r ra rb rc, hr]; rfl
      unfold Oper.wp execOp
      simp only [h0.2, Sem.run_bind, Sem.run_pure, Result.andThen_ok, hx]
      refine ⟨hd', ?_, hT, ?_⟩
      · rw [h0.1, hA]
        show (((a.put (some a0) _).put (some b0) _).put (some c0) _).put (some a0) _ = ((a.put (some a0) _).put (some b0) _).put (some c0) _
        rw [act_put_comm _ (Ne.symm ac), act_put_comm (a.put (some a0) _) (Ne.symm ab), Go.Proofs.YtogjkkbhmanbmaaGreatDoor.Grow.put_put]
        simp
      · simpa using hW
    · obtain rfl : o1 = o := by rw [p1] at hop; injection hop
      have hx : (Instr.extract (A.eval (.tmp r)) 1).run P W = .ok (.agg cs.toArray) W := by rw [hA, ev f r ra rb rc, hr]; rfl
      unfold Oper.wp execOp
      simp only [h1.2, Sem.run_bind, Sem.run_pure, Result.andThen_ok, hx]
      refine ⟨hd', ?_, hT, ?_⟩
      · rw [h1.1, hA]
        show (((a.put (some a0) _).put (some b0) _).put (some c0) _).put (some b0) _ = ((a.put (some a0) _).put (some b0) _).put (some c0) _
        rw [act_put_comm _ (Ne.symm bc), Go.Proofs.YtogjkkbhmanbmaaGreatDoor.Grow.put_put]
        simp
      · simpa using hW
    · obtain rfl : o2 = o := by rw [p2] at hop; injection hop
      have hf := waits e2 hp
      unfold Oper.wp execOp
      have hx : A.eval (.tmp a0) = x0 := by rw [hA]; exact eva f hf
      simp only [h2.2, Sem.run_pure, hx]
      refine ⟨hd', ?_, hT, ?_⟩
      · rw [h2.1, hA]
        show (((a.put (some a0) _).put (some b0) _).put (some c0) _).put (some c0) _ = ((a.put (some a0) _).put (some b0) _).put (some c0) _
        rw [Go.Proofs.YtogjkkbhmanbmaaGreatDoor.Grow.put_put]
        simp
      · simpa using hW
    · obtain rfl : o3 = o := by rw [p3] at hop; injection hop
      have hf := waits e3 hp
      rw [if_neg (by rw [hn]; decide)] at hW
      have hx : A.eval (.tmp b0) = .agg cs.toArray := by rw [hA]; exact evb f hf
      have hj : A.eval (.tmp j) = .pointer (some ⟨gO, 0, none⟩) := by rw [hA, ev f j ja jb jc, hpj]
      obtain ⟨cur, q2, q3, q4⟩ := setCells_row cs 0 W co.toArray hW (by simp [hl])
      obtain ⟨s1, s2, s3, s4⟩ := setCells_same gO cs 0 W
      have h5 : cur = cs.toArray := by
        apply Array.toList_inj.1
        rw [q4, List.take_zero, List.nil_append, List.drop_of_length_le (by simp; omega), List.append_nil]
      have hgr : W.grownBy (W.setCells gO 0 cs) (some gO) := ⟨s1, s2, s3, Nat.le_of_eq s4.symm, fun k _ hk => setCells_far cs 0 k (fun e => hk (by rw [e]))⟩
      have hrun : (Instr.storeAt ty (.pointer (some ⟨gO, 0, none⟩)) (A.eval (.tmp b0))).run P W = .ok () (W.setCells gO 0 cs) := run_store_run ty _ cs hW (by rw [hx]; rfl) hi (by simp [hl]) hc
      unfold Oper.wp execOp
      simp only [h3.2, hj, Sem.run_bind, Sem.run_pure, Result.andThen_ok, hrun]
      refine ⟨hd', ?_, hT.trans (Tch.grown hgr rfl hgr.size), ?_⟩
      · rw [h3.1, hA]
        show ((a.put (some a0) _).put (some b0) _).put (some c0) _ = ((a.put (some a0) _).put (some b0) _).put (some c0) _
        simp
      · rw [q2, h5]; simp
  · rintro f A W hf ⟨_, hA, hT, hW⟩
    rw [if_pos (hf (m + 3) (by omega))] at hW
    have e : A = ((a.put (some a0) x0).put (some b0) (.agg cs.toArray)).put (some c0) x0 := by
      rw [hA]
      show ((a.put (some a0) (if f m = true then _ else _)).put (some b0) (if f (m + 1) = true then _ else _)).put (some c0) (if f (m + 2) = true then _ else _) = _
      rw [if_pos (hf m (by omega)), if_pos (hf (m + 1) (by omega)), if_pos (hf (m + 2) (by omega))]
    rw [e]
    exact h W hW hT
  · refine ⟨hdone, ?_, Tch.refl _ _, by rw [if_neg (show ¬ L.getD (m + 3) false = true by rw [hopen _ (by omega) (by omega)]; decide)]; exact hO⟩
    show a = ((a.put (some a0) (if L.getD m false = true then _ else _)).put (some b0) (if L.getD (m + 1) false = true then _ else _)).put (some c0) (if L.getD (m + 2) false = true then _ else _)
    rw [if_neg (by rw [hopen _ (by omega) (by omega)]; decide), if_neg (by rw [hopen _ (by omega) (by omega)]; decide), if_neg (by rw [hopen _ (by omega) (by omega)]; decide)]
    show a = ((a.put (some a0) (a.tmps.getD a0 undef)).put (some b0) (a.tmps.getD b0 undef)).put (some c0) (a.tmps.getD c0 undef)
    rw [act_put_old, act_put_old, act_put_old]
end Go.Proofs.YtogjkkbhmanbmaaGreatDoor.L1
namespace Go.Proofs.YtogjkkbhmanbmaaGreatDoor.L1
open Go.RowKit Go.Proofs.YtogjkkbhmanbmaaGreatDoorW.PrintWords Go.Proofs.YtogjkkbhmanbmaaGreatDoor.B
set_option linter.unusedVariables false
set_option linter.unusedSimpArgs false
attribute [local go_sem] mk_cell mk_frozen
def Inst.tiny (x : Inst) : Prop := x.vs.length ≤ 64 ∧ x.qs.length ≤ 1000 ∧ x.rs.length ≤ 4000
theorem lineP_tiny {x : Inst} (h : x.tiny) (line : List Int) : (lineP x line).2.tiny := by
  obtain ⟨h0, h1, h2⟩ := h
  unfold lineP lineW
  split
  · exact ⟨h0, h1, h2⟩
  split
  · exact ⟨h0, h1, h2⟩
  split
  · exact ⟨h0, h1, h2⟩
  split
  · exact ⟨h0, h1, h2⟩
  split
  · unfold addVeh
    split
    · exact ⟨h0, h1, h2⟩
    split
    · exact ⟨h0, h1, h2⟩
    · exact ⟨by show (x.vs ++ _).length ≤ 64; rw [List.length_append, List.length_singleton]; omega, h1, h2⟩
  split
  · unfold addReq
    split
    · exact ⟨h0, h1, h2⟩
    split
    · exact ⟨h0, h1, h2⟩
    · exact ⟨h0, by show (x.qs ++ _).length ≤ 1000; rw [List.length_append, List.length_singleton]; omega, h2⟩
  · unfold addRoad
    split
    · exact ⟨h0, h1, h2⟩
    split
    · exact ⟨h0, h1, h2⟩
    split
    · exact ⟨h0, h1, h2⟩
    · exact ⟨h0, h1, by show (x.rs ++ _).length ≤ 4000; rw [List.length_append, List.length_singleton]; omega⟩
theorem kindOf_cases (f : List Int) : kindOf f = 0 ∨ kindOf f = 1 ∨ kindOf f = 2 ∨ kindOf f = 3 := by
  unfold kindOf
  split
  · exact Or.inr (Or.inl rfl)
  split
  · exact Or.inr (Or.inr (Or.inl rfl))
  split
  · exact Or.inr (Or.inr (Or.inr rfl))
  · exact Or.inl rfl
structure IRes where (err line : Int) (inst : Inst)
def noInst : Inst := ⟨[], [], []⟩
/-- What the lines ls add to the instance x, behind i lines. -/
def parseFrom (x : Inst) (i : Nat) : List (List Int) → IRes
  | [] => ⟨0, 0, x⟩
  | [l] => if l.length = 0 then ⟨0, 0, x⟩ else ⟨2, i + 1, noInst⟩
  | l :: m :: ls => if (lineP x l).1 = 0 then parseFrom (lineP x l).2 (i + 1) (m :: ls) else ⟨(lineP x l).1, i + 1, noInst⟩
def parseP (bs : List Int) : IRes := if 300000 < bs.length then ⟨1, 0, noInst⟩ else parseFrom noInst 0 (pieces 10 bs)
theorem parseFrom_cons {x : Inst} {i : Nat} {l : List Int} {t : List (List Int)} (h : t ≠ []) : parseFrom x i (l :: t) = if (lineP x l).1 = 0 then parseFrom (lineP x l).2 (i + 1) t else ⟨(lineP x l).1, i + 1, noInst⟩ := by
  cases t with
  | nil => exact absurd rfl h
  | cons m t => rfl
theorem drop_at {ls : List (List Int)} {k : Nat} (h : k < ls.length) : ls.drop k = ls.getD k [] :: ls.drop (k + 1) := by
  rw [List.getD_eq_getElem?_getD, List.getElem?_eq_getElem h]; exact List.drop_eq_getElem_cons h
theorem parse_last {x : Inst} {ls : List (List Int)} {k : Nat} (h : ls.length = k + 1) : parseFrom x k (ls.drop k) = if (ls.getD k []).length = 0 then ⟨0, 0, x⟩ else ⟨2, k + 1, noInst⟩ := by
  rw [drop_at (by omega), List.drop_of_length_le (by omega)]; rfl
theorem parse_next {x : Inst} {ls : List (List Int)} {k : Nat} (h : k + 1 < ls.length) : parseFrom x k (ls.drop k) = if (lineP x (ls.getD k [])).1 = 0 then parseFrom (lineP x (ls.getD k [])).2 (k + 1) (ls.drop (k + 1)) else ⟨(lineP x (ls.getD k [])).1, k + 1, noInst⟩ := by
  rw [drop_at (show k < ls.length by omega), parseFrom_cons]
  intro he
  have := congrArg List.length he
  rw [List.length_drop] at this
  simp at this; omega
/-- The result's rows, each of the call's own. -/
def OwnR (W : World) (base : Nat) (u : Value) (r : IRes) : Prop := ∃ v0 v1 v2, u = .agg #[.int .i64 r.err, .int .i64 r.line, v0, v1, v2] ∧ kVeh.R 60 W base (fun _ => True) v0 r.inst.vs ∧ kReq.R 63 W base (fun _ => True) v1 r.inst.qs ∧ kRoad.R 66 W base (fun _ => True) v2 r.inst.rs
theorem OwnR.none {W : World} {base : Nat} {e l : Int} : OwnR W base (.agg #[.int .i64 e, .int .i64 l, .slice none 0 0, .slice none 0 0, .slice none 0 0]) ⟨e, l, noInst⟩ := ⟨_, _, _, rfl, Kd.R_nil _ _ _ _ _, Kd.R_nil _ _ _ _ _, Kd.R_nil _ _ _ _ _⟩
section
variable (w : World)
theorem spec_line (w0 : World) (u : Value) (x : Inst) (hI : OwnI w w0.heap.size u x) (hB : Below w0.heap.size w0 w) (hf : x.tiny) (Al : Option Addr) (cl : Nat) (line : List Int) (hl : kByte.C w Al line.length line) (ht : Tame line) (z : Nat) (zc : Array Value) (hz : w.heap[z]? = some (.cells zc 27 (0, 0))) :
    Calls Tryz.prog 13 #[u, .slice Al line.length cl] w fun e w' => ∃ u, e = .returned (.tuple #[.int .i64 (lineP x line).1, u]) ∧ OwnI w' w0.heap.size u (lineP x line).2 ∧ Below w0.heap.size w0 w' ∧ w'.heap[z]? = some (.cells zc 27 (0, 0)) := by
  obtain ⟨v0, v1, v2, rfl, h0, h1, h2⟩ := hI
  obtain ⟨A0, c0, rfl⟩ := Kd.R_slice h0
  obtain ⟨A1, c1, rfl⟩ := Kd.R_slice h1
  obtain ⟨A2, c2, rfl⟩ := Kd.R_slice h2
  rcases kindOf_cases ((pieces 32 line).getD 0 []) with hk | hk | hk | hk
  · exact spec_line0 w w0 A0 A1 A2 c0 c1 c2 x h0 h1 h2 hB hf.1 hf.2.1 hf.2.2 Al cl line hl ht hk z zc hz
  · exact spec_line1 w w0 A0 A1 A2 c0 c1 c2 x h0 h1 h2 hB hf.1 hf.2.1 hf.2.2 Al cl line hl ht hk z zc hz
  · exact spec_line2 w w0 A0 A1 A2 c0 c1 c2 x h0 h1 h2 hB hf.1 hf.2.1 hf.2.2 Al cl line hl ht hk z zc hz
  · exact spec_line3 w w0 A0 A1 A2 c0 c1 c2 x h0 h1 h2 hB hf.1 hf.2.1 hf.2.2 Al cl line hl ht hk z zc hz
set_option maxRecDepth 100000 in
set_option maxHeartbeats 8000000 in
theorem spec_ParseInst (A : Option Addr) (c : Nat) (bs : List Int) (hr : kByte.C w A bs.length bs) (ht : Tame bs) : Calls Tryz.prog 4 #[.slice A bs.length c] w fun e w' => ∃ u, e = .returned u ∧ OwnR w' w.heap.size u (parseP bs) ∧ Below w.heap.size w w' := by
  have HR := Aside0.mk hr; have HT := Aside0.mk ht
  obtain ⟨ls, hls⟩ : ∃ ls, pieces 10 bs = ls := ⟨_, rfl⟩
  have HLS := Aside0.mk hls
  have HPT := Aside0.mk (fun j => (hls ▸ ht.piece (sep := 10) j : Tame (ls.getD j [])))
  have HPL := Aside0.mk (show 0 < ls.length from hls ▸ pieces_pos 10 bs)
  have HPN := Aside0.mk (show ls.length ≤ 1048577 from hls ▸ Nat.le_trans (pieces_len 10 bs) (Nat.succ_le_succ ht.1))
  have HPP := Aside0.mk (show parseP bs = if 300000 < bs.length then ⟨1, 0, noInst⟩ else parseFrom noInst 0 ls from hls ▸ rfl)
  have hbl := ht.1
  clear hr ht hls
  have HB0 := Aside0.mk (below_alloc (Below.refl w.heap.size w) (.cells #[.int .i64 0, .int .i64 0, .slice none 0 0, .slice none 0 0, .slice none 0 0] 29))
  have h := al_new w (.cells #[.int .i64 0, .int .i64 0, .slice none 0 0, .slice none 0 0, .slice none 0 0] 29)
  have HOut0 := Aside0.mk h; clear h
  have HGOut := Aside0.mk (show w.heap.size ≤ w.heap.size from Nat.le_add_right _ 0)
  have HZ0 := Aside0.mk (show (w.alloc (.cells #[.int .i64 0, .int .i64 0, .slice none 0 0, .slice none 0 0, .slice none 0 0] 29)).heap.size = w.heap.size + 1 by simp only [al_size])
  have HSZ0 := Aside0.mk (Nat.le_refl (w.alloc (.cells #[.int .i64 0, .int .i64 0, .slice none 0 0, .slice none 0 0, .slice none 0 0] 29)).heap.size)
  by_cases hlong : 300000 < bs.length
  · skip
    have p0 : decide ((300000 : Int) < (bs.length : Int)) = true := decide_eq_true (by omega)
    have HV := Aside0.mk (show parseP bs = ⟨1, 0, noInst⟩ by rw [HPP.out, if_pos hlong])
    clear hlong hbl
    go_enter Tryz.func4, Tryz.ntmps4
    obtain ⟨out1, out2⟩ := lay (Below.refl _ _) HOut0.out
    go_wp2_with ((with_reducible refine gate_store (t := 29) (p := 2) rfl ?_); refine wpList_putAll rfl rfl _ _ _ rfl (g := w.heap.size) [.int .i64 1, .int .i64 0, .slice none 0 0, .slice none 0 0, .slice none 0 0] rfl rfl (by kernel_rfl) (List.all_eq_true.1 (show List.all [.int .i64 1, .int .i64 0, .slice none 0 0, .slice none 0 0, .slice none 0 0] Value.oneCell' = true from rfl)) HOut0.out rfl ?_; intro w1 hX hT hz; clear hz; clear out1 out2; (try simp only [List.setIfInBounds_toArray, List.set_cons_zero, List.set_cons_succ] at hX); have HB1 := Aside0.mk (hT.below w (fun k hk => by rw [hk]; exact HGOut.out) HB0.out); have HSZ1 := Aside0.mk (Nat.le_trans HSZ0.out hT.size); have HOut1 := Aside0.mk hX; clear hX hT; obtain ⟨out1, out2⟩ := lay (Below.refl _ _) HOut1.out)
    clear out1 out2
    refine bodyPost_ret (results_cell Tryz.results4 rfl HOut1.out Tryz.underlying29 rfl (by kernel_rfl)) rfl ?_
    exact ⟨_, rfl, by rw [HV.out]; exact OwnR.none, HB1.out⟩
  have p0 : decide ((300000 : Int) < (bs.length : Int)) = false := decide_eq_false (by omega)
  have HV := Aside0.mk (show parseP bs = parseFrom noInst 0 ls by rw [HPP.out, if_neg hlong])
  clear hlong HPP hbl
  go_enter Tryz.func4, Tryz.ntmps4
  obtain ⟨out1, out2⟩ := lay (Below.refl _ _) HOut0.out
  go_wp2_with fail
  clear out1 out2
  go_at_call 12
  refine (spec_split _ A c bs 10 (Kd.C_below HR.out HB0.out) HT.out.1).mono ?_
  rintro e w1 ⟨v, ps, rfl, hr, hf, hfit, hb⟩
  have HB1 := Aside0.mk (bel_call HB0.out hb); have HOut1 := Aside0.mk (blk_below HOut0.out hb); have HSZ1 := Aside0.mk (Nat.le_trans HSZ0.out hb.size); rw [HLS.out] at hf hfit; obtain ⟨B, cB, rfl, hcB, hwd⟩ := Flds.words hr hf hfit HPL.out; have HWD := Aside0.mk hwd; clear hr hf hfit hwd; clear hb
  clear p0
  obtain ⟨m, hm⟩ : ∃ m, ls.length = m + 1 := ⟨ls.length - 1, by have := HPL.out; omega⟩
  rw [hm] at hcB ⊢
  have hm2 : m ≤ 1048576 := by have := HPN.out; omega
  have HM := Aside0.mk hm; clear hm
  have HGW1 := Aside0.mk HB1.out.size
  obtain ⟨out1, out2⟩ := lay (Below.refl _ _) HOut1.out
  go_wp2_with ((with_reducible refine gate_store (t := 27) (p := 4) rfl ?_); have HX2 := Aside0.mk (bel_box (Below.refl w1.heap.size w1) (.cells #[.slice none 0 0, .slice none 0 0, .slice none 0 0] 27)); have hsz := HSZ1.out; have HB2 := Aside0.mk (bel_box HB1.out (.cells #[.slice none 0 0, .slice none 0 0, .slice none 0 0] 27)); have HOut2 := Aside0.mk (blk_box HOut1.out (.cells #[.slice none 0 0, .slice none 0 0, .slice none 0 0] 27)); have HSZ2 := Aside0.mk (Nat.le_trans HSZ1.out (below_alloc (Below.refl _ _) (.cells #[.slice none 0 0, .slice none 0 0, .slice none 0 0] 27)).size); have HIn2 := Aside0.mk (al_new w1 (.cells #[.slice none 0 0, .slice none 0 0, .slice none 0 0] 27)); have HGIn := Aside0.mk (Nat.le_trans HB1.out.size (Nat.le_refl w1.heap.size)); clear hsz; refine wpList_putAll rfl rfl _ _ _ rfl (g := w1.heap.size) [.slice none 0 0, .slice none 0 0, .slice none 0 0] rfl rfl (by kernel_rfl) (List.all_eq_true.1 (show List.all [.slice none 0 0, .slice none 0 0, .slice none 0 0] Value.oneCell' = true from rfl)) HIn2.out rfl ?_; intro w3 hX hT hz; clear hz; clear out1 out2; have HX3 := Aside0.mk (hT.below w1 (fun k hk => by rw [hk]; exact Nat.le_refl _) HX2.out); (try simp only [List.setIfInBounds_toArray, List.set_cons_zero, List.set_cons_succ] at hX); have HB3 := Aside0.mk (hT.below w (fun k hk => by rw [hk]; exact HGIn.out) HB2.out); have HOut3 := Aside0.mk (tch_keep hT HIn2.out HOut2.out (by decide)); have HSZ3 := Aside0.mk (Nat.le_trans HSZ2.out hT.size); have HIn3 := Aside0.mk hX; clear hX hT; obtain ⟨out1, out2⟩ := lay (Below.refl _ _) HOut3.out; obtain ⟨in1, in2⟩ := lay (Below.refl _ _) HIn3.out)
  clear out1 out2 in1 in2
  skip
  go_loopg [5, 6] (m + 1) (fun q v5 v6 wr => ∃ (k : Nat) (x : Inst) (A0 A1 A2 : Option Addr) (c0 c1 c2 : Nat), q = m + 1 - k ∧ k ≤ m ∧ v5 = .int .i64 k ∧ Aside0 (parseFrom noInst 0 ls = parseFrom x k (ls.drop k)) ∧ Aside0 x.tiny ∧ Aside0 (wr.heap[w1.heap.size]? = some (.cells #[.slice A0 x.vs.length c0, .slice A1 x.qs.length c1, .slice A2 x.rs.length c2] 27 (0, 0))) ∧ Aside0 (kVeh.R 60 wr w1.heap.size (fun _ => True) (.slice A0 x.vs.length c0) x.vs) ∧ Aside0 (kReq.R 63 wr w1.heap.size (fun _ => True) (.slice A1 x.qs.length c1) x.qs) ∧ Aside0 (kRoad.R 66 wr w1.heap.size (fun _ => True) (.slice A2 x.rs.length c2) x.rs) ∧ Aside0 (Below w1.heap.size w1 wr))
  case atStart => exact ⟨0, noInst, none, none, none, 0, 0, 0, by omega, by omega, rfl, ⟨rfl⟩, ⟨⟨by decide, by decide, by decide⟩⟩, HIn3, ⟨Kd.R_nil _ _ _ _ _⟩, ⟨Kd.R_nil _ _ _ _ _⟩, ⟨Kd.R_nil _ _ _ _ _⟩, HX3⟩
  case round =>
    obtain ⟨k, x, A0, A1, A2, c0, c1, c2, rfl, hk, rfl, HPF, HXT, HI, R0, R1, R2, HL⟩ := hrel
    rename World => w4
    have HB4 := Aside0.mk (bel_call HB1.out HL.out); have HOut4 := Aside0.mk (blk_below HOut1.out HL.out); have HSZ4 := Aside0.mk (Nat.le_refl w4.heap.size)
    have HIn4 := HI; have HR04 := R0; have HR14 := R1; have HR24 := R2; have HX4 := HL
    obtain ⟨A, c, y0, hcp, hfo, hC⟩ := HWD.out k (by rw [HM.out]; omega)
    replace y0 := pw_cell_below HL.out y0
    have HTL := HPT.out k
    have HCW := Aside0.mk (Kd.C_below hC HL.out)
    have HTK := Aside0.mk HTL; clear HTL hfo hcp hC
    have hlu : (k : Int) < (m : Int) + 1 := by omega
    have hlv : k < m + 1 := by omega
    have q0 : IntKind.i64.wrap ((m : Int) + 1 - 1) = (m : Int) := by rw [IntWalk.i64_in _ (by omega)]; omega
    have q1 : IntKind.i64.wrap (m : Int) = (m : Int) := IntWalk.i64_in _ (by omega)
    have q2 : IntKind.i64.wrap ((k : Int) + 1) = (k : Int) + 1 := IntWalk.i64_in _ (by omega)
    by_cases hkm : k = m
    · have e0 : ((k : Int) == (m : Int)) = true := by rw [hkm]; exact beq_self_eq_true _
      have e1 : decide ((k : Int) = (m : Int)) = true := decide_eq_true (by omega)
      have HPE := Aside0.mk (show parseP bs = if (ls.getD k []).length = 0 then ⟨0, 0, x⟩ else ⟨2, k + 1, noInst⟩ by rw [HV.out, HPF.out]; exact parse_last (by rw [HM.out, hkm]))
      clear hkm
      generalize hlw : (ls.getD k []).length = lw at y0 HPE HCW
      have HLW := Aside0.mk hlw; clear hlw
      rcases Nat.eq_zero_or_pos lw with hz | hz
      · subst hz
        have HE := Aside0.mk (show parseP bs = ⟨0, 0, x⟩ by rw [HPE.out]; rfl)
        obtain ⟨out1, out2⟩ := lay (Below.refl _ _) HOut4.out
        obtain ⟨in1, in2⟩ := lay (Below.refl _ _) HIn4.out
        go_wp2_with ((with_reducible refine gate_store (t := 29) (p := 2) rfl ?_); refine wpList_putAll rfl rfl _ _ _ rfl (g := w.heap.size) [.int .i64 0, .int .i64 0, .slice A0 x.vs.length c0, .slice A1 x.qs.length c1, .slice A2 x.rs.length c2] rfl rfl (by kernel_rfl) (List.all_eq_true.1 (show List.all [.int .i64 0, .int .i64 0, .slice A0 x.vs.length c0, .slice A1 x.qs.length c1, .slice A2 x.rs.length c2] Value.oneCell' = true from rfl)) HOut4.out rfl ?_; intro w5 hX hT hz; clear hz; clear out1 out2 in1 in2; (try simp only [List.setIfInBounds_toArray, List.set_cons_zero, List.set_cons_succ] at hX); have HB5 := Aside0.mk (hT.below w (fun k hk => by rw [hk]; exact HGOut.out) HB4.out); have HIn5 := Aside0.mk (tch_keep hT HOut4.out HIn4.out (by decide)); have HR05 := Aside0.mk (R_tch HR04.out hT HOut4.out (by decide)); have HR15 := Aside0.mk (R_tch HR14.out hT HOut4.out (by decide)); have HR25 := Aside0.mk (R_tch HR24.out hT HOut4.out (by decide)); have HSZ5 := Aside0.mk (Nat.le_trans HSZ4.out hT.size); have HOut5 := Aside0.mk hX; clear hX hT; obtain ⟨out1, out2⟩ := lay (Below.refl _ _) HOut5.out; obtain ⟨in1, in2⟩ := lay (Below.refl _ _) HIn5.out)
        clear out1 out2 in1 in2
        refine bodyPost_ret (results_cell Tryz.results4 rfl HOut5.out Tryz.underlying29 rfl (by kernel_rfl)) rfl ?_
        exact ⟨_, rfl, by rw [HE.out]; exact ⟨_, _, _, rfl, Kd.R_lower HR05.out HB1.out.size, Kd.R_lower HR15.out HB1.out.size, Kd.R_lower HR25.out HB1.out.size⟩, HB5.out⟩
      · have z0 : decide ((0 : Int) < (lw : Int)) = true := decide_eq_true (by omega)
        have z1 : decide (0 < lw) = true := decide_eq_true hz
        have HE := Aside0.mk (show parseP bs = ⟨2, k + 1, noInst⟩ by rw [HPE.out, if_neg (by omega)])
        clear hz
        obtain ⟨out1, out2⟩ := lay (Below.refl _ _) HOut4.out
        obtain ⟨in1, in2⟩ := lay (Below.refl _ _) HIn4.out
        go_wp2_with ((with_reducible refine gate_store (t := 29) (p := 2) rfl ?_); refine wpList_putAll rfl rfl _ _ _ rfl (g := w.heap.size) [.int .i64 2, .int .i64 ((k : Int) + 1), .slice none 0 0, .slice none 0 0, .slice none 0 0] rfl rfl (by kernel_rfl) (List.all_eq_true.1 (show List.all [.int .i64 2, .int .i64 ((k : Int) + 1), .slice none 0 0, .slice none 0 0, .slice none 0 0] Value.oneCell' = true from rfl)) HOut4.out rfl ?_; intro w5 hX hT hz; clear hz; clear out1 out2 in1 in2; (try simp only [List.setIfInBounds_toArray, List.set_cons_zero, List.set_cons_succ] at hX); have HB5 := Aside0.mk (hT.below w (fun k hk => by rw [hk]; exact HGOut.out) HB4.out); have HIn5 := Aside0.mk (tch_keep hT HOut4.out HIn4.out (by decide)); have HR05 := Aside0.mk (R_tch HR04.out hT HOut4.out (by decide)); have HR15 := Aside0.mk (R_tch HR14.out hT HOut4.out (by decide)); have HR25 := Aside0.mk (R_tch HR24.out hT HOut4.out (by decide)); have HSZ5 := Aside0.mk (Nat.le_trans HSZ4.out hT.size); have HOut5 := Aside0.mk hX; clear hX hT; obtain ⟨out1, out2⟩ := lay (Below.refl _ _) HOut5.out; obtain ⟨in1, in2⟩ := lay (Below.refl _ _) HIn5.out)
        clear out1 out2 in1 in2
        refine bodyPost_ret (results_cell Tryz.results4 rfl HOut5.out Tryz.underlying29 rfl (by kernel_rfl)) rfl ?_
        exact ⟨_, rfl, by rw [HE.out]; exact OwnR.none, HB5.out⟩
    · have e0 : ((k : Int) == (m : Int)) = false := beq_false_of_ne (by omega)
      have e1 : decide ((k : Int) = (m : Int)) = false := decide_eq_false (by omega)
      have hkn : k + 1 ≤ m := by omega
      have HPE := Aside0.mk (show parseP bs = if (lineP x (ls.getD k [])).1 = 0 then parseFrom (lineP x (ls.getD k [])).2 (k + 1) (ls.drop (k + 1)) else ⟨(lineP x (ls.getD k [])).1, k + 1, noInst⟩ by rw [HV.out, HPF.out]; exact parse_next (by rw [HM.out]; omega))
      have HTN := Aside0.mk (lineP_tiny HXT.out (ls.getD k []))
      clear hkm
      have HLC := Aside0.mk (fun (W : World) (hb : Below w4.heap.size w4 W) => spec_line W w1 _ x ⟨_, _, _, rfl, Kd.R_below HR04.out hb, Kd.R_below HR14.out hb, Kd.R_below HR24.out hb⟩ (bel_call HX4.out hb) HXT.out A c _ (Kd.C_below HCW.out hb) HTK.out w1.heap.size _ (blk_below HIn4.out hb))
      generalize (ls.getD k []).length = lw at y0 HLC
      generalize lineP x (ls.getD k []) = pr at HLC HPE HTN
      obtain ⟨e, x2⟩ := pr
      obtain ⟨out1, out2⟩ := lay (Below.refl _ _) HOut4.out
      obtain ⟨in1, in2⟩ := lay (Below.refl _ _) HIn4.out
      go_wp2_with fail
      clear out1 out2 in1 in2
      refine Grow.wp_region_prefix 5 (by kernel_rfl) (by kernel_rfl) ?_
      dsimp only [List.take]
      repeat ((first | (refine Grow.lexP_do _ (by rfl) (by rfl) (by intro W hj; obtain ⟨out1, out2⟩ := lay (Below.refl _ _) (blk_below HOut4.out hj.out); obtain ⟨in1, in2⟩ := lay (Below.refl _ _) (blk_below HIn4.out hj.out); have s0 := pw_cell_below hj.out y0; go_simp; first | exact Grow.UponB.val) ?_)); refine Grow.lexP_norm (fun K hK => ?_); go_simp; refine hK _ ?_; clear hK K)
      refine Grow.lexP_nil (fun W hj => ?_)
      have hcall := HLC.out W hj.out
      clear HLC
      refine Grow.any_one (n := 5) (i := 5) (L' := #[true, true, true, true, true, true, false, false, false, false, false]) (by kernel_rfl) rfl rfl (by kernel_rfl) (fun K hK => ?_)
      unfold Oper.wp
      go_simp
      refine hcall.mono ?_
      rintro ee w5 ⟨u, rfl, ⟨v0, v1, v2, rfl, r0, r1, r2⟩, hb, hz⟩
      have HX5 := Aside0.mk hb; have HB5 := Aside0.mk (bel_call HB1.out hb); have HOut5 := Aside0.mk (blk_below HOut1.out hb); have HSZ5 := Aside0.mk (Nat.le_refl w5.heap.size)
      obtain ⟨B0, b0, rfl⟩ := Kd.R_slice r0
      obtain ⟨B1, b1, rfl⟩ := Kd.R_slice r1
      obtain ⟨B2, b2, rfl⟩ := Kd.R_slice r2
      have HIn5 := Aside0.mk hz; have HR05 := Aside0.mk r0; have HR15 := Aside0.mk r1; have HR25 := Aside0.mk r2
      clear hcall hb hz r0 r1 r2 hj
      refine hK _ _ ?_
      clear hK K
      refine Grow.any_one (n := 4) (i := 6) (L' := #[true, true, true, true, true, true, true, false, false, false, false]) (by kernel_rfl) rfl rfl (by kernel_rfl) (fun K hK => ?_)
      unfold Oper.wp
      go_simp
      refine hK _ _ ?_
      clear hK K
      refine any_pair (m := 7) 36 43 44 6 4 27 27 (.int .i64 e) (cs := [.slice B0 x2.vs.length b0, .slice B1 x2.qs.length b1, .slice B2 x2.rs.length b2]) (co := [.slice A0 x.vs.length c0, .slice A1 x.qs.length c1, .slice A2 x.rs.length c2]) rfl rfl rfl rfl rfl rfl (by decide) (by decide) (by decide) ⟨rfl, rfl⟩ ⟨rfl, rfl⟩ ⟨rfl, rfl⟩ ⟨rfl, rfl⟩ (by kernel_rfl) (by kernel_rfl) (by kernel_rfl) (by kernel_rfl) (by decide) ⟨show 43 < 53 by decide, show 44 < 53 by decide⟩ rfl rfl (by kernel_rfl) rfl HIn5.out (List.all_eq_true.1 (show List.all [.slice B0 x2.vs.length b0, .slice B1 x2.qs.length b1, .slice B2 x2.rs.length b2] Value.oneCell' = true from rfl)) ?_
      intro w6 hX hT
      have HX6 := Aside0.mk (hT.below w1 (fun k hk => by rw [hk]; exact Nat.le_refl _) HX5.out)
      (try simp only [List.setIfInBounds_toArray, List.set_cons_zero, List.set_cons_succ] at hX)
      have HB6 := Aside0.mk (hT.below w (fun k hk => by rw [hk]; exact HGW1.out) HB5.out); have HOut6 := Aside0.mk (tch_keep hT HIn5.out HOut5.out (by decide)); have HR06 := Aside0.mk (R_tch HR05.out hT HIn5.out (by decide)); have HR16 := Aside0.mk (R_tch HR15.out hT HIn5.out (by decide)); have HR26 := Aside0.mk (R_tch HR25.out hT HIn5.out (by decide)); have HSZ6 := Aside0.mk (Nat.le_trans HSZ5.out hT.size); have HIn6 := Aside0.mk hX; clear hX hT
      clear y0
      by_cases he : e = 0
      · subst he
        have HPG := Aside0.mk (HPE.out.trans (if_pos rfl))
        obtain ⟨out1, out2⟩ := lay (Below.refl _ _) HOut6.out
        obtain ⟨in1, in2⟩ := lay (Below.refl _ _) HIn6.out
        go_wp2_with fail
        clear out1 out2 in1 in2
        go_roundg (m + 1 - (k + 1))
        case measure => omega
        case rel => exact ⟨k + 1, x2, B0, B1, B2, b0, b1, b2, rfl, hkn, by go_num, ⟨HV.out.symm.trans HPG.out⟩, HTN, HIn6, HR06, HR16, HR26, HX6⟩
      · have z0 : (e == 0) = false := beq_false_of_ne he
        have z1 : decide (e = 0) = false := decide_eq_false he
        have z2 : (e != 0) = true := by rw [bne, z0]; rfl
        have HE := Aside0.mk (show parseP bs = ⟨e, k + 1, noInst⟩ from HPE.out.trans (if_neg he))
        clear he
        obtain ⟨out1, out2⟩ := lay (Below.refl _ _) HOut6.out
        obtain ⟨in1, in2⟩ := lay (Below.refl _ _) HIn6.out
        go_wp2_with ((with_reducible refine gate_store (t := 29) (p := 2) rfl ?_); refine wpList_putAll rfl rfl _ _ _ rfl (g := w.heap.size) [.int .i64 e, .int .i64 ((k : Int) + 1), .slice none 0 0, .slice none 0 0, .slice none 0 0] rfl rfl (by kernel_rfl) (List.all_eq_true.1 (show List.all [.int .i64 e, .int .i64 ((k : Int) + 1), .slice none 0 0, .slice none 0 0, .slice none 0 0] Value.oneCell' = true from rfl)) HOut6.out rfl ?_; intro w7 hX hT hz; clear hz; clear out1 out2 in1 in2; (try simp only [List.setIfInBounds_toArray, List.set_cons_zero, List.set_cons_succ] at hX); have HB7 := Aside0.mk (hT.below w (fun k hk => by rw [hk]; exact HGOut.out) HB6.out); have HIn7 := Aside0.mk (tch_keep hT HOut6.out HIn6.out (by decide)); have HR07 := Aside0.mk (R_tch HR06.out hT HOut6.out (by decide)); have HR17 := Aside0.mk (R_tch HR16.out hT HOut6.out (by decide)); have HR27 := Aside0.mk (R_tch HR26.out hT HOut6.out (by decide)); have HSZ7 := Aside0.mk (Nat.le_trans HSZ6.out hT.size); have HOut7 := Aside0.mk hX; clear hX hT; obtain ⟨out1, out2⟩ := lay (Below.refl _ _) HOut7.out; obtain ⟨in1, in2⟩ := lay (Below.refl _ _) HIn7.out)
        clear out1 out2 in1 in2
        refine bodyPost_ret (results_cell Tryz.results4 rfl HOut7.out Tryz.underlying29 rfl (by kernel_rfl)) rfl ?_
        exact ⟨_, rfl, by rw [HE.out]; exact OwnR.none, HB7.out⟩
end
end Go.Proofs.YtogjkkbhmanbmaaGreatDoor.L1
set_option linter.unusedVariables false
namespace Go.Proofs.YtogjkkbhmanbmaaGreatDoor.Grow
open Go.RowKit Go.Proofs.YtogjkkbhmanbmaaGreatDoorW.PrintWords Go.Proofs.YtogjkkbhmanbmaaGreatDoor.B
section
variable {P : Program}
end
end Go.Proofs.YtogjkkbhmanbmaaGreatDoor.Grow
namespace Go.Proofs.YtogjkkbhmanbmaaGreatDoor.L1
open Go.RowKit Go.Proofs.YtogjkkbhmanbmaaGreatDoorW.PrintWords Go.Proofs.YtogjkkbhmanbmaaGreatDoor.B
end Go.Proofs.YtogjkkbhmanbmaaGreatDoor.L1
namespace Go.Proofs.YtogjkkbhmanbmaaGreatDoor.L1
open Go.RowKit Go.Proofs.YtogjkkbhmanbmaaGreatDoorW.PrintWords Go.Proofs.YtogjkkbhmanbmaaGreatDoor.B
set_option linter.unusedVariables false
set_option linter.unusedSimpArgs false
attribute [local go_sem] mk_cell mk_frozen
theorem str_eq' (s : ByteArray) (ws : List UInt8) : (ws == s.toList) = decide (bytesOf s = ofU ws) := by
  rw [← str_eq]; exact BEq.comm
/-- The kind of the lines so far, as the program numbers it. -/
def kindNo (x : Inst) : Int := if 0 < x.rs.length then 2 else if 0 < x.qs.length then 1 else 0
theorem tch_row {S : Nat → Prop} {W W1 : World} {row : Option Nat} (hg : W.grownBy W1 row) (h : ∀ k, row = some k → S k) (hz : W.heap.size ≤ W1.heap.size) : Tch S W W1 :=
  ⟨hz, fun k hk hn => hg.block k hk (fun e => hn (h k e.symm)), fun w0 h0 hb => pw_below_grown hb row hb.size hg (fun k hk => h0 k (h k hk))⟩
theorem tch_at {S : Nat → Prop} {W W1 : World} {k : Nat} {o : Obj} (h : Tch S W W1) (hn : ¬ S k) (hb : W.heap[k]? = some o) : W1.heap[k]? = some o := (h.same k (blk_lt' hb) hn).trans hb
/-- What a line's reader leaves. -/
def LineEnd (w w0 : World) (gi gk : Nat) (v0 v1 v2 : Value) (p : Int × Inst) (e : Ending) (w' : World) : Prop :=
  ((p.1 = 0 ∧ e = .returned .nilIface ∧ w'.heap[gk]? = some (.cells #[.int .i64 (kindNo p.2)] 3 (0, 0)) ∧ ∃ u0 u1 u2, w'.heap[gi]? = some (.cells #[u0, u1, u2] 27 (0, 0)) ∧ kVeh.R 60 w' w0.heap.size (fun _ => True) u0 p.2.vs ∧ kReq.R 63 w' w0.heap.size (fun _ => True) u1 p.2.qs ∧ kRoad.R 66 w' w0.heap.size (fun _ => True) u2 p.2.rs) ∨ (p.1 ≠ 0 ∧ e = .returned (.iface 46 (.agg #[.int .i64 p.1])))) ∧
  Tch (fun k => k = gi ∨ k = gk ∨ some k = v0.ownBlock ∨ some k = v1.ownBlock ∨ some k = v2.ownBlock) w w'
theorem impl_split (w0 w : World) (hG : Gl w0) (hB : Below w0.heap.size w0 w) (s : ByteArray) (hz : s.size ≤ 1048576) : Calls Tryz.prog 35 #[.string s, .string ⟨#[32]⟩] w fun e w' => ∃ (ss : List ByteArray) (n : Nat), e = .returned (.slice (some ⟨w.heap.size, 0, none⟩) (n + 1) (n + 1)) ∧ ss.length = n + 1 ∧ n ≤ 1048576 ∧ wordsOf ss = pieces 32 (bytesOf s) ∧ Strs w' w.heap.size ss ∧ Below w.heap.size w w' := by
  obtain ⟨m, hm⟩ := hG.max
  refine (Tryz.strings_Split s ⟨#[32]⟩ m w (by omega) (pw_cell_below hB hm) (by decide)).mono ?_
  rintro e w' ⟨rfl, rfl⟩
  have hw : wordsOf (Lib.splitB ⟨#[32]⟩ 0 (Lib.countB s ⟨#[32]⟩) s) = pieces 32 (bytesOf s) := split_bytes s 32
  have hl : (Lib.splitB ⟨#[32]⟩ 0 (Lib.countB s ⟨#[32]⟩) s).length = Lib.countB s ⟨#[32]⟩ + 1 := Lib.splitB_all ⟨#[32]⟩ (by decide) 0 _ s rfl
  have hT : Tame (bytesOf s) := ⟨by rw [bytesOf_len]; exact hz, bytesOf_bytes s⟩
  have hn : Lib.countB s ⟨#[32]⟩ ≤ 1048576 := by
    have h1 := pieces_len 32 (bytesOf s)
    rw [← hw, bytesOf_len] at h1
    unfold wordsOf at h1
    rw [List.length_map, hl] at h1
    omega
  generalize Lib.splitB ⟨#[32]⟩ 0 (Lib.countB s ⟨#[32]⟩) s = ss at hw hl
  refine ⟨ss, _, rfl, hl, hn, hw, ⟨fun j hj => ?_, fun j => ?_⟩, below_alloc (Below.refl _ _) _⟩
  · rw [Go.Joins.cell_of_block (al_new w _)]
    unfold strAt
    simp [hj]
  · have h1 := (hT.piece (sep := 32) j).1
    rw [← hw, wordsOf_at, bytesOf_len] at h1
    exact h1
theorem form1 (fs : List (List Int)) : allI 8 (formAt 1 fs) = (isNum (fs.getD 1 []) && tagOk (fs.getD 2 []) && five fs 3) := by
  unfold allI five
  rw [show List.range 8 = [0, 1, 2, 3, 4, 5, 6, 7] from rfl]
  simp only [List.all_cons, List.all_nil, formAt]
  simp [Bool.and_assoc]
theorem form2 (fs : List (List Int)) : allI 13 (formAt 2 fs) = (isNum (fs.getD 1 []) && tagOk (fs.getD 2 []) && five fs 3 && five fs 8) := by
  unfold allI five
  rw [show List.range 13 = [0, 1, 2, 3, 4, 5, 6, 7, 8, 9, 10, 11, 12] from rfl]
  simp only [List.all_cons, List.all_nil, formAt]
  simp [Bool.and_assoc]
theorem form3 (fs : List (List Int)) : allI 4 (formAt 3 fs) = (isNum (fs.getD 1 []) && isNum (fs.getD 2 []) && isNum (fs.getD 3 [])) := by
  unfold allI
  rw [show List.range 4 = [0, 1, 2, 3] from rfl]
  simp only [List.all_cons, List.all_nil, formAt]
  simp [Bool.and_assoc]
theorem lineW_form {x : Inst} {fs : List (List Int)} {K : Int} {r : Int × Inst} (h0 : K ≠ 0) (hO : ¬((0 < x.rs.length ∧ K < 3) ∨ (0 < x.qs.length ∧ K < 2))) (hn : fs.length = wantOf K) (hr : (if K = 1 then addVeh x (vehOf fs) else if K = 2 then addReq x (reqOf fs) else addRoad x (roadOf fs)) = r) : lineW x fs K = if allI fs.length (formAt K fs) = false then (6, x) else r := by
  unfold lineW
  rw [if_neg h0, if_neg hO, if_neg (fun h => h hn), hr]
end Go.Proofs.YtogjkkbhmanbmaaGreatDoor.L1
namespace Go.Proofs.YtogjkkbhmanbmaaGreatDoor.L1
open Go.RowKit Go.Proofs.YtogjkkbhmanbmaaGreatDoorW.PrintWords Go.Proofs.YtogjkkbhmanbmaaGreatDoor.B
set_option linter.unusedVariables false
set_option linter.unusedSimpArgs false
attribute [local go_sem] mk_cell mk_frozen
section
variable (w : World)
set_option maxRecDepth 100000 in
set_option maxHeartbeats 8000000 in
theorem impl_line0 (w0 : World) (hG : Gl w0) (gi gk : Nat) (A0 A1 A2 : Option Addr) (c0 c1 c2 : Nat) (x : Inst) (hI : w.heap[gi]? = some (.cells #[.slice A0 x.vs.length c0, .slice A1 x.qs.length c1, .slice A2 x.rs.length c2] 27 (0, 0))) (hK : w.heap[gk]? = some (.cells #[.int .i64 (kindNo x)] 3 (0, 0))) (h0 : kVeh.R 60 w w0.heap.size (fun _ => True) (.slice A0 x.vs.length c0) x.vs) (h1 : kReq.R 63 w w0.heap.size (fun _ => True) (.slice A1 x.qs.length c1) x.qs) (h2 : kRoad.R 66 w w0.heap.size (fun _ => True) (.slice A2 x.rs.length c2) x.rs)
    (hB : Below w0.heap.size w0 w) (hgi : w0.heap.size ≤ gi) (hgk : w0.heap.size ≤ gk) (hf : x.tiny) (s : ByteArray) (hz : s.size ≤ 1048576) (hk : kindOf ((pieces 32 (bytesOf s)).getD 0 []) = 0) : Calls Tryz.prog 16 #[.pointer (some ⟨gi, 0, none⟩), .string s, .pointer (some ⟨gk, 0, none⟩)] w fun e w' => LineEnd w w0 gi gk (.slice A0 x.vs.length c0) (.slice A1 x.qs.length c1) (.slice A2 x.rs.length c2) (lineP x (bytesOf s)) e w' := by
  have HGL := Aside0.mk hG; have HZ := Aside0.mk hz; have HXT := Aside0.mk hf; have HGI := Aside0.mk hgi; have HGK := Aside0.mk hgk
  have HI0 := Aside0.mk hI; have HK0 := Aside0.mk hK; have HB0 := Aside0.mk hB; have HR00 := Aside0.mk h0; have HR10 := Aside0.mk h1; have HR20 := Aside0.mk h2
  have HT0 := Aside0.mk (Tch.refl (fun k => k = gi ∨ k = gk ∨ some k = (Value.slice A0 x.vs.length c0).ownBlock ∨ some k = (Value.slice A1 x.qs.length c1).ownBlock ∨ some k = (Value.slice A2 x.rs.length c2).ownBlock) w)
  have HSZ0 := Aside0.mk (Nat.le_refl w.heap.size)
  have HIL := Aside0.mk (blk_lt' hI); have HKL := Aside0.mk (blk_lt' hK)
  obtain ⟨fs, hfs⟩ : ∃ fs, pieces 32 (bytesOf s) = fs := ⟨_, rfl⟩
  rw [show lineP x (bytesOf s) = lineW x (pieces 32 (bytesOf s)) (kindOf ((pieces 32 (bytesOf s)).getD 0 [])) from rfl, hk, hfs]
  rw [hfs] at hk
  have HFS := Aside0.mk hfs; have HKD := Aside0.mk hk
  clear hfs hk hG hz hf hgi hgk hI hK hB h0 h1 h2
  go_enter Tryz.func16, Tryz.ntmps16
  obtain ⟨i1, i2⟩ := lay (Below.refl _ _) HI0.out
  obtain ⟨k1, k2⟩ := lay (Below.refl _ _) HK0.out
  go_wp2_with fail
  clear i1 i2 k1 k2
  go_at_call 35
  refine (impl_split w0 _ HGL.out HB0.out s HZ.out).mono ?_
  rintro e w1 ⟨ss, n, rfl, hsl, hnn, hws, hst, hb⟩
  have HB1 := Aside0.mk (bel_call HB0.out hb); have HI1 := Aside0.mk (blk_below HI0.out hb); have HK1 := Aside0.mk (blk_below HK0.out hb); have HR01 := Aside0.mk (Kd.R_below HR00.out hb); have HR11 := Aside0.mk (Kd.R_below HR10.out hb); have HR21 := Aside0.mk (Kd.R_below HR20.out hb); have HSZ1 := Aside0.mk (Nat.le_trans HSZ0.out hb.size); have HS1 := Aside0.mk hst; have HWS := Aside0.mk (show wordsOf ss = fs from hws.trans HFS.out); have HSL := Aside0.mk hsl; clear hsl hws hst; have HT1 := Aside0.mk (HT0.out.trans (Tch.of_below hb)); clear hb
  have HBI := Aside0.mk (Nat.ne_of_gt HIL.out); have HBK := Aside0.mk (Nat.ne_of_gt HKL.out)
  have HFL := Aside0.mk (show fs.length = n + 1 by rw [← HWS.out]; unfold wordsOf; rw [List.length_map, HSL.out])
  have HAT := Aside0.mk (fun j => show bytesOf (strAt ss j) = fs.getD j [] by rw [← HWS.out, wordsOf_at])
  have hpos : 0 < n + 1 := Nat.succ_pos _
  obtain ⟨i1, i2⟩ := lay (Below.refl _ _) HI1.out
  obtain ⟨k1, k2⟩ := lay (Below.refl _ _) HK1.out
  go_wp2_with ((with_reducible refine gate_store (t := 76) (p := 7) rfl ?_); have hsz := HSZ1.out; have HB2 := Aside0.mk (bel_box HB1.out (.cells #[.slice none 0 0, .bool false] 76)); have HI2 := Aside0.mk (blk_box HI1.out (.cells #[.slice none 0 0, .bool false] 76)); have HK2 := Aside0.mk (blk_box HK1.out (.cells #[.slice none 0 0, .bool false] 76)); have HR02 := Aside0.mk (Kd.R_below HR01.out (below_alloc (Below.refl _ _) (.cells #[.slice none 0 0, .bool false] 76))); have HR12 := Aside0.mk (Kd.R_below HR11.out (below_alloc (Below.refl _ _) (.cells #[.slice none 0 0, .bool false] 76))); have HR22 := Aside0.mk (Kd.R_below HR21.out (below_alloc (Below.refl _ _) (.cells #[.slice none 0 0, .bool false] 76))); have HSZ2 := Aside0.mk (Nat.le_trans HSZ1.out (below_alloc (Below.refl _ _) (.cells #[.slice none 0 0, .bool false] 76)).size); have HFb2 := Aside0.mk (al_new w1 (.cells #[.slice none 0 0, .bool false] 76)); have HGFb := Aside0.mk (Nat.le_trans HB1.out.size (Nat.le_refl w1.heap.size)); clear hsz; have HGF := Aside0.mk (show w0.heap.size ≤ w1.heap.size from HB1.out.size); have HGFbw := Aside0.mk (show w.heap.size ≤ w1.heap.size from HSZ1.out); have HGFw := HGFbw; have HBF := Aside0.mk (show w.heap.size ≠ w1.heap.size from by have h1 := (HS1.out.1 0 (by rw [HSL.out]; exact Nat.succ_pos _)); have h2 := cell_size h1; omega); have HT2 := Aside0.mk (HT1.out.trans (Tch.of_below (below_alloc (Below.refl _ _) (.cells #[.slice none 0 0, .bool false] 76)))); have HS2 := Aside0.mk (HS1.out.below (below_alloc (Below.refl _ _) (.cells #[.slice none 0 0, .bool false] 76))); refine wpList_putAll rfl rfl _ _ _ rfl (g := w1.heap.size) [.slice (some ⟨w.heap.size, 0, none⟩) (n + 1) (n + 1), .bool false] rfl rfl (by kernel_rfl) (List.all_eq_true.1 (show List.all [.slice (some ⟨w.heap.size, 0, none⟩) (n + 1) (n + 1), .bool false] Value.oneCell' = true from rfl)) HFb2.out rfl ?_; intro w3 hX hT hz; clear hz; clear i1 i2 k1 k2; have HT3 := Aside0.mk (tch_new HT2.out hT HGFbw.out); have HS3 := Aside0.mk (HS2.out.tch hT (HBF.out)); (try simp only [List.setIfInBounds_toArray, List.set_cons_zero, List.set_cons_succ] at hX); have HB3 := Aside0.mk (hT.below w0 (fun k hk => by rw [hk]; exact HGFb.out) HB2.out); have HI3 := Aside0.mk (tch_keep hT HFb2.out HI2.out (by decide)); have HK3 := Aside0.mk (tch_keep hT HFb2.out HK2.out (by decide)); have HR03 := Aside0.mk (R_tch HR02.out hT HFb2.out (by decide)); have HR13 := Aside0.mk (R_tch HR12.out hT HFb2.out (by decide)); have HR23 := Aside0.mk (R_tch HR22.out hT HFb2.out (by decide)); have HSZ3 := Aside0.mk (Nat.le_trans HSZ2.out hT.size); have HFb3 := Aside0.mk hX; clear hX hT; obtain ⟨i1, i2⟩ := lay (Below.refl _ _) HI3.out; obtain ⟨k1, k2⟩ := lay (Below.refl _ _) HK3.out; obtain ⟨fb1, fb2⟩ := lay (Below.refl _ _) HFb3.out)
  clear i1 i2 k1 k2 fb1 fb2
  have HF3 := Aside0.mk (show FAt w3 w1.heap.size w.heap.size 0 (n + 1) false from ⟨_, HFb3.out, fun _ => rfl⟩)
  go_at_call 36
  refine (impl_next _ w1.heap.size w.heap.size 0 n false (strAt ss 0) HF3.out (HS3.out.1 0 (by rw [HSL.out]; exact hpos))).mono ?_
  rintro e w4 ⟨rfl, hF, hT⟩
  obtain ⟨pf, hf1, _⟩ := HF3.out
  have HF4 := Aside0.mk hF; have HT4 := Aside0.mk (tch_new HT3.out hT HGFw.out); have HB4 := Aside0.mk (hT.below w0 (fun k hk => by rw [hk]; exact HGF.out) HB3.out); have HS4 := Aside0.mk (HS3.out.tch hT HBF.out); have HSZ4 := Aside0.mk (Nat.le_trans HSZ3.out hT.size); have HI4 := Aside0.mk (tch_keep hT hf1 HI3.out (by decide)); have HK4 := Aside0.mk (tch_keep hT hf1 HK3.out (by decide)); have HR04 := Aside0.mk (R_tch HR03.out hT hf1 (by decide)); have HR14 := Aside0.mk (R_tch HR13.out hT hf1 (by decide)); have HR24 := Aside0.mk (R_tch HR23.out hT hf1 (by decide)); clear hF hT hf1
  have HW0 := Aside0.mk (show bytesOf (strAt ss 0) = fs.getD 0 [] from HAT.out 0)
  have e0 := str_eq' (strAt ss 0) [118, 101, 104, 105, 99, 108, 101]
  have e1 := str_eq' (strAt ss 0) [114, 101, 113, 117, 101, 115, 116]
  have e2 := str_eq' (strAt ss 0) [114, 111, 97, 100]
  rw [HW0.out] at e0 e1 e2
  have hne := HKD.out
  unfold kindOf at hne
  by_cases g0 : fs.getD 0 [] = wVehicle
  · rw [if_pos g0] at hne; cases hne
  rw [if_neg g0] at hne
  by_cases g1 : fs.getD 0 [] = wRequest
  · rw [if_pos g1] at hne; cases hne
  rw [if_neg g1] at hne
  by_cases g2 : fs.getD 0 [] = wRoad
  · rw [if_pos g2] at hne; cases hne
  rw [decide_eq_false (show ¬ fs.getD 0 [] = ofU [118, 101, 104, 105, 99, 108, 101] from g0)] at e0
  rw [decide_eq_false (show ¬ fs.getD 0 [] = ofU [114, 101, 113, 117, 101, 115, 116] from g1)] at e1
  rw [decide_eq_false (show ¬ fs.getD 0 [] = ofU [114, 111, 97, 100] from g2)] at e2
  clear hne g0 g1 g2
  obtain ⟨kc0, kc1, kc2, kc3, kc4, kc5⟩ := HGL.out.kinds
  have HKC := Aside0.mk (And.intro (pw_cell_below HB4.out kc0) (And.intro (pw_cell_below HB4.out kc1) (And.intro (pw_cell_below HB4.out kc2) (And.intro (pw_cell_below HB4.out kc3) (And.intro (pw_cell_below HB4.out kc4) (pw_cell_below HB4.out kc5))))))
  clear kc0 kc1 kc2 kc3 kc4 kc5
  obtain ⟨i1, i2⟩ := lay (Below.refl _ _) HI4.out
  obtain ⟨k1, k2⟩ := lay (Below.refl _ _) HK4.out
  go_wp2_with fail
  clear i1 i2 k1 k2
  go_loopg [10] 4 (fun q v10 wr => ∃ a : Nat, q = 4 - a ∧ a ≤ 3 ∧ v10 = .int .i64 a ∧ w4 = wr)
  case atStart => exact ⟨0, by omega, by omega, rfl, rfl⟩
  case round =>
    obtain ⟨a, rfl, ha, rfl, rfl⟩ := hrel
    obtain ⟨kc0, kc1, kc2, kc3, kc4, kc5⟩ := HKC.out
    rcases (show a = 0 ∨ a = 1 ∨ a = 2 ∨ a = 3 by omega) with rfl | rfl | rfl | rfl
    · go_wp2
      go_roundg (4 - (0 + 1))
      case measure => omega
      case rel => exact ⟨0 + 1, rfl, by omega, rfl, rfl⟩
    · go_wp2
      go_roundg (4 - (1 + 1))
      case measure => omega
      case rel => exact ⟨1 + 1, rfl, by omega, rfl, rfl⟩
    · go_wp2
      go_roundg (4 - (2 + 1))
      case measure => omega
      case rel => exact ⟨2 + 1, rfl, by omega, rfl, rfl⟩
    · skip
      have HV := Aside0.mk (show lineW x fs 0 = (3, x) from rfl)
      obtain ⟨i1, i2⟩ := lay (Below.refl _ _) HI4.out
      obtain ⟨k1, k2⟩ := lay (Below.refl _ _) HK4.out
      go_wp2
      go_ret
      exact ⟨Or.inr ⟨by rw [HV.out]; show (3 : Int) ≠ 0; decide, by rw [HV.out]; rfl⟩, HT4.out⟩
end
end Go.Proofs.YtogjkkbhmanbmaaGreatDoor.L1
