/- append of a whole row, for kinds whose cells hang on no memory. -/
import Derived.Test.YteefopaoodfapaaDoorB0
namespace Go.Proofs.YteefopaoodfapaaDoor.B
open Go.RowKit Go.Proofs.YteefopaoodfapaaDoorW.PrintWords
set_option linter.unusedVariables false
theorem reps_append {α : Type} {R : α → List Value → Prop} {n : Nat} {xs ys : List α} {a b : List Value} (ha : Reps R n xs a) (hb : Reps R n ys b) : Reps R n (xs ++ ys) (a ++ b) := by
  refine ⟨by rw [List.length_append, ha.1, hb.1, List.length_append, Nat.add_mul], fun j q hq => ?_⟩
  rcases Nat.lt_or_ge j xs.length with hj | hj
  · rw [List.getElem?_append_left hj] at hq
    have h1 : j * n + n ≤ a.length := by rw [ha.1, ← Nat.succ_mul]; exact Nat.mul_le_mul_right _ hj
    have h2 := ha.2 j q hq
    rw [List.drop_append_of_le_length (by omega), List.take_append_of_le_length (by rw [List.length_drop]; omega)]
    exact h2
  · rw [List.getElem?_append_right hj] at hq
    have h2 := hb.2 (j - xs.length) q hq
    have e : j * n = a.length + (j - xs.length) * n := by rw [ha.1, ← Nat.add_mul]; congr 1; omega
    rw [e, List.drop_append, List.drop_of_length_le (by omega), List.nil_append, Nat.add_sub_cancel_left]
    exact h2
theorem reps_flat {α : Type} {n : Nat} {enc : α → List Value} (hn : ∀ x, (enc x).length = n) : ∀ ys : List α, Reps (fun p c => c = enc p) n ys (ys.flatMap enc)
  | [] => Reps.none _ _
  | p :: t => by
    have h1 : Reps (fun p c => c = enc p) n [p] (enc p) := ⟨by rw [hn]; simp, fun j q hq => by
      rcases j with _ | j
      · simp only [List.getElem?_cons_zero, Option.some.injEq] at hq
        subst hq
        rw [Nat.zero_mul, List.drop_zero, ← hn p, List.take_length]
      · simp at hq⟩
    exact reps_append h1 (reps_flat hn t)
theorem flat_get {α : Type} {n : Nat} {enc : α → List Value} (hn : ∀ x, (enc x).length = n) (h0 : 0 < n) {ys : List α} {j : Nat} {u : Value} (h : (ys.flatMap enc)[j]? = some u) : ∃ p, ys[j / n]? = some p ∧ (enc p)[j % n]? = some u := by
  have hr := reps_flat hn ys
  have hj : j < ys.length * n := by rw [← hr.1]; exact (List.getElem?_eq_some_iff.1 h).1
  have hq : j / n < ys.length := (Nat.div_lt_iff_lt_mul h0).2 hj
  refine ⟨ys[j / n], List.getElem?_eq_getElem hq, ?_⟩
  have h2 := hr.2 (j / n) _ (List.getElem?_eq_getElem hq)
  rw [← h2, List.getElem?_take_of_lt (Nat.mod_lt _ h0), List.getElem?_drop, Nat.mul_comm, Nat.div_add_mod]
  exact h
namespace Kd
open Go.Proofs.YteefopaoodfapaaDoorW.PrintWords.Kd
section
variable {P : Program} {ops : Array Oper} {rest : List Oper} {o : Oper} {a : Act} {Q : Exit → Act → World → Prop} {α : Type} {n : Nat} {enc : α → List Value} {hn : ∀ x, (enc x).length = n} {h1 : ∀ x, ∀ u ∈ enc x, u.oneCell' = true}
theorem flat_append_run (d : Kd α) (hdd : d = flat n enc hn h1) {w0 W : World} (base : Nat) (t e : TypeId) (z0 : α) (bytes : Nat)
    (ty : TypeId)
    (ht : P.underlying t = some (.slice e)) (hinfo : (P.info? e).map (fun i => (i.zero.map (·.cells.toList), i.size, i.bytes)) = some (some (enc z0), n, bytes)) (h0 : 0 < n) (hb0 : 0 < bytes)
    (v : Value) (xs ys : List α) (A : Option Addr) (m c : Nat) 
    (HO : d.R e W base (fun _ => True) v xs) (HR : d.C W A m ys) (HB : Below base w0 W) (hbase : base ≤ W.heap.size) (hl : (xs.length + m) * bytes ≤ 140737488355328) :
    ∃ v1 w1, (Builtin.append_ #[t, t] ty #[v, .slice A m c]).run P W = .ok v1 w1 ∧ d.R e w1 base (fun _ => True) v1 (xs ++ ys) ∧ Below base w0 w1 ∧ W.grownBy w1 v.ownBlock ∧ (v1.ownBlock = v.ownBlock ∨ ∃ b, v1.ownBlock = some b ∧ W.heap.size ≤ b) := by
  subst hdd
  obtain ⟨i0, hi, hzz⟩ := Option.map_eq_some_iff.1 hinfo
  simp only [Prod.mk.injEq] at hzz
  obtain ⟨hz0, hz1, hz2⟩ := hzz
  obtain ⟨z, hz3, hz4⟩ := Option.map_eq_some_iff.1 hz0
  have hm : ys.length = m := HR.1
  have hlen : xs.length + m ≤ 140737488355328 := Nat.le_trans (Nat.le_mul_of_pos_right _ hb0) hl
  obtain ⟨_, inner, HW, HQ⟩ := HO
  have HW' : W.ownsRow base e n v xs.length inner := HW
  have HQ' : Reps (fun p c => c = enc p) n xs inner := HQ
  have hrun : ∃ v1 w1, (Builtin.append_ #[t, t] ty #[v, .slice A m c]).run P W = .ok v1 w1 ∧ w1.ownsRow base e n v1 (xs ++ ys).length (inner ++ ys.flatMap enc) ∧ W.grownBy w1 v.ownBlock ∧ (v1.ownBlock = v.ownBlock ∨ v1.ownBlock = some W.heap.size) := by
    rcases A with _ | ad
    · have h00 : m = 0 := by
        rcases Nat.eq_zero_or_pos m with h0 | h0
        · exact h0
        · obtain ⟨ad, h, _⟩ := HR.2.2 h0
          cases h
      subst h00
      obtain rfl : ys = [] := List.eq_nil_of_length_eq_zero hm
      refine ⟨v, W, ?_, by simpa using HW', World.grownBy.refl W _, .inl rfl⟩
      rcases HW'.2 with ⟨rfl, hn⟩ | ⟨g, cap, cur, rfl, _, _, hnc, _⟩
      · simp [Builtin.append_, run_underlying ht, sizeOf, typeInfo, hi, Builtin.lenOf, Builtin.firstCells]
      · simp [Builtin.append_, run_underlying ht, sizeOf, typeInfo, hi, Builtin.lenOf, Builtin.firstCells, hnc, storeCells]
    · have hcells : ∀ j u, (ys.flatMap enc)[j]? = some u → W.cell? (ad.add j) = some u := by
        intro j u hu
        obtain ⟨p, hp, hpu⟩ := flat_get hn h0 hu
        have hpos : 0 < m := by
          rw [← hm]
          exact Nat.lt_of_le_of_lt (Nat.zero_le _) (List.getElem?_eq_some_iff.1 hp).1
        obtain ⟨ad', h', hc⟩ := HR.2.2 hpos
        injection h' with h'
        subst h'
        obtain ⟨c0, _, hc1, hc2⟩ := hc (j / n) p hp
        have hc1' : c0 = enc p := hc1
        subst hc1'
        have := hc2 (j % n) u hpu
        rwa [show j / n * (flat n enc hn h1).sz + j % n = j from by show j / n * n + j % n = j; rw [Nat.mul_comm, Nat.div_add_mod]] at this
      obtain ⟨v1, w1, hr, h2, h3, _, h5⟩ := run_append_own_at (P := P) W base t ty e i0 z n bytes ht hi hz3 hz1 hz2 (by rw [← Array.length_toList, hz4]; exact hn z0) h0 v xs.length inner HW' ad m c (ys.flatMap enc) (by rw [(reps_flat hn ys).1, hm]) hcells
        (by intro u hu; obtain ⟨q, _, hq⟩ := List.mem_flatMap.1 hu; exact h1 q u hq) (by simp only [maxLen]; omega) hl hbase
      exact ⟨v1, w1, hr, by rw [List.length_append, hm]; exact h2, h3, h5⟩
  obtain ⟨v1, w1, hr, hown, hg, hat⟩ := hrun
  refine ⟨v1, w1, hr, ⟨fun _ _ => trivial, _, hown, reps_append HQ' (reps_flat hn ys)⟩, HB.grown hg hbase (own_base HW'), hg, ?_⟩
  rcases hat with hat | hat
  · exact .inl hat
  · exact .inr ⟨_, hat, Nat.le_refl _⟩
/-- append(out, row...). -/
theorem flat_append_row (d : Kd α) (hdd : d = flat n enc hn h1) {w0 W : World} (base : Nat) (hgd : o.guard = none) (s x : Operand) (t e : TypeId) (z0 : α) (bytes : Nat)
    (ho : o.op = .call { callee := .builtin .append, args := #[s, x], argTypes := #[t, t] })
    (ht : P.underlying t = some (.slice e)) (hinfo : (P.info? e).map (fun i => (i.zero.map (·.cells.toList), i.size, i.bytes)) = some (some (enc z0), n, bytes)) (h0 : 0 < n) (hb0 : 0 < bytes)
    (v : Value) (xs ys : List α) (A : Option Addr) (m c : Nat) (hs : a.eval s = v) (hx : a.eval x = .slice A m c)
    (HO : d.R e W base (fun _ => True) v xs) (HR : d.C W A m ys) (HB : Below base w0 W) (hbase : base ≤ W.heap.size) (hl : (xs.length + m) * bytes ≤ 140737488355328)
    (h : ∀ v1 w1, d.R e w1 base (fun _ => True) v1 (xs ++ ys) → Below base w0 w1 → W.grownBy w1 v.ownBlock → (v1.ownBlock = v.ownBlock ∨ ∃ b, v1.ownBlock = some b ∧ W.heap.size ≤ b) → wpList P ops Q rest (a.put o.dst v1) w1) :
    wpList P ops Q (o :: rest) a W := by
  obtain ⟨v1, w1, hr, hR, hB, hg, hat⟩ := flat_append_run (P := P) d hdd (w0 := w0) (W := W) base t e z0 bytes o.type ht hinfo h0 hb0 v xs ys A m c HO HR HB hbase hl
  refine wpList_plain hgd fun K hK => ?_
  unfold Oper.wp execOp
  simp only [ho, resolve, invoke, builtin, Sem.run_bind, Sem.run_pure, Result.andThen_ok, List.map_toArray, List.map_cons, List.map_nil, hs, hx, hr]
  exact hK _ _ (h v1 w1 hR hB hg hat)
/-- The same for an operation of a drawn region. -/
theorem flat_append_step (d : Kd α) (hdd : d = flat n enc hn h1) {w0 W : World} (base : Nat) {N : Option Tmp} {K : Act → World → Prop} {opsR : Array Oper} (hw : Region.wanted o (yielded opsR a.tmps) = true) (hN : o.dst = N) (s x : Operand) (t e : TypeId) (z0 : α) (bytes : Nat)
    (ho : o.op = .call { callee := .builtin .append, args := #[s, x], argTypes := #[t, t] })
    (ht : P.underlying t = some (.slice e)) (hinfo : (P.info? e).map (fun i => (i.zero.map (·.cells.toList), i.size, i.bytes)) = some (some (enc z0), n, bytes)) (h0 : 0 < n) (hb0 : 0 < bytes)
    (v : Value) (xs ys : List α) (A : Option Addr) (m c : Nat) (hs : a.eval s = v) (hx : a.eval x = .slice A m c)
    (HO : d.R e W base (fun _ => True) v xs) (HR : d.C W A m ys) (HB : Below base w0 W) (hbase : base ≤ W.heap.size) (hl : (xs.length + m) * bytes ≤ 140737488355328)
    (h : ∀ v1 w1, d.R e w1 base (fun _ => True) v1 (xs ++ ys) → Below base w0 w1 → W.grownBy w1 v.ownBlock → (v1.ownBlock = v.ownBlock ∨ ∃ b, v1.ownBlock = some b ∧ W.heap.size ≤ b) → K (a.put N v1) w1) :
    if Region.wanted o (yielded opsR a.tmps) = true then Oper.wp P o a W K Q else K (a.put N undef) W := by
  obtain ⟨v1, w1, hr, hR, hB, hg, hat⟩ := flat_append_run (P := P) d hdd (w0 := w0) (W := W) base t e z0 bytes o.type ht hinfo h0 hb0 v xs ys A m c HO HR HB hbase hl
  rw [if_pos hw]
  subst hN
  unfold Oper.wp execOp
  simp only [ho, resolve, invoke, builtin, Sem.run_bind, Sem.run_pure, Result.andThen_ok, List.map_toArray, List.map_cons, List.map_nil, hs, hx, hr]
  exact h v1 w1 hR hB hg hat
end
end Kd
end Go.Proofs.YteefopaoodfapaaDoor.B
