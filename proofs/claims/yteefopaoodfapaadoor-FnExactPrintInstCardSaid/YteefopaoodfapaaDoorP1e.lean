/- The program's printer: its row of bytes; a word. -/
import Derived.Test.YteefopaoodfapaaDoorP1c
import Derived.Lib.AppendStr
namespace Go.Proofs.YteefopaoodfapaaDoor.L1
open Go.RowKit Go.Proofs.YteefopaoodfapaaDoorW.PrintWords Go.Proofs.YteefopaoodfapaaDoor.B
set_option linter.unusedVariables false
set_option linter.unusedSimpArgs false
attribute [local go_sem] mk_cell mk_frozen
theorem strCells_bytes (s : ByteArray) : Lib.strCells s = (ofU s.data.toList).flatMap fun n => [Value.int .u8 n] := by
  unfold Lib.strCells ofU
  induction s.data.toList with
  | nil => rfl
  | cons a t ih => rw [List.map_cons, List.map_cons, List.flatMap_cons, ← ih]; rfl
theorem ofU_len (s : ByteArray) : (ofU s.data.toList).length = s.size := by unfold ofU; rw [List.length_map]; rfl
section
variable {P : Program} {ops : Array Oper} {rest : List Oper} {o : Oper} {a : Act} {Q : Exit → Act → World → Prop}
/-- append(row, string...). -/
theorem str_append {w0 W : World} (hgd : o.guard = none) (s x : Operand) (t u e : TypeId)
    (ho : o.op = .call { callee := .builtin .append, args := #[s, x], argTypes := #[t, u] })
    (ht : P.underlying t = some (.slice e)) (hu : P.underlying u = some .string) (hinfo : (P.info? e).map (fun i => (i.zero, i.size, i.bytes)) = some (some (.int .u8 0), 1, 1))
    (v : Value) (xs : List Int) (st : ByteArray) (hs : a.eval s = v) (hx : a.eval x = .string st)
    (HO : kByte.R e W w0.heap.size (fun _ => True) v xs) (HB : Below w0.heap.size w0 W) (hl : xs.length + st.size ≤ 140737488355328)
    (h : ∀ v1 w1, kByte.R e w1 w0.heap.size (fun _ => True) v1 (xs ++ ofU st.data.toList) → Below w0.heap.size w0 w1 → W.grownBy w1 v.ownBlock → wpList P ops Q rest (a.put o.dst v1) w1) :
    wpList P ops Q (o :: rest) a W := by
  obtain ⟨i0, hi, hzz⟩ := Option.map_eq_some_iff.1 hinfo
  simp only [Prod.mk.injEq] at hzz
  obtain ⟨hz0, hz1, hz2⟩ := hzz
  obtain ⟨_, inner, HW, HQ⟩ := HO
  have HW' : W.ownsRow w0.heap.size e 1 v xs.length inner := HW
  have HQ' : Reps (fun p c => c = [Value.int .u8 p]) 1 xs inner := HQ
  obtain ⟨v1, w1, hr, hown, hg, _⟩ := Lib.run_append_own_string (P := P) W w0.heap.size t u o.type e i0 ht hu hi hz0 hz1 hz2 v xs.length inner HW' st (by simp only [maxLen]; omega) hl HB.size
  refine wpList_plain hgd fun K hK => ?_
  unfold Oper.wp execOp
  simp only [ho, resolve, invoke, builtin, Sem.run_bind, Sem.run_pure, Result.andThen_ok, List.map_toArray, List.map_cons, List.map_nil, hs, hx, hr]
  rw [strCells_bytes, ← ofU_len, ← List.length_append] at hown
  exact hK _ _ (h v1 w1 ⟨fun _ _ => trivial, _, hown, reps_append HQ' (reps_flat (enc := fun n => [Value.int .u8 n]) (fun _ => rfl) _)⟩ (HB.grown hg HB.size (own_base HW')) hg)
end
theorem Ty.row {W : World} {base : Nat} {ok : Nat → Prop} {v : Value} {xs : List Int} (h : kByte.R 5 W base ok v xs) : ∀ i, v.ownBlock = some i → ∃ (cs : Array Value) (fr : Nat × Nat), W.heap[i]? = some (Obj.cells cs 5 fr) := fun i e => by
  obtain ⟨inner, ho⟩ := Kd.R_own h
  obtain ⟨cells, hc⟩ := own_typed ho i e
  exact ⟨cells, _, hc⟩
/-- What a printer's method leaves alone: all but the printer's box and rows of bytes. -/
def Fra (g : Nat) (W W' : World) : Prop := W.heap.size ≤ W'.heap.size ∧ ∀ (k : Nat) (o : Obj), k ≠ g → W.heap[k]? = some o → (∀ (cs : Array Value) (fr : Nat × Nat), o ≠ Obj.cells cs 5 fr) → W'.heap[k]? = some o
theorem Fra.refl (g : Nat) (W : World) : Fra g W W := ⟨Nat.le_refl _, fun _ _ _ h _ => h⟩
theorem Fra.trans {g : Nat} {W W1 W2 : World} (h : Fra g W W1) (h1 : Fra g W1 W2) : Fra g W W2 := ⟨Nat.le_trans h.1 h1.1, fun k o hk ho hn => h1.2 k o hk (h.2 k o hk ho hn) hn⟩
theorem Fra.below {g : Nat} {W W1 : World} (h : Below W.heap.size W W1) : Fra g W W1 := ⟨h.size, fun k o _ ho _ => blk_below ho h⟩
theorem Fra.grown {g : Nat} {W W1 : World} {row : Option Nat} (h : W.grownBy W1 row) (hr : ∀ i, row = some i → i = g ∨ ∃ (cs : Array Value) (fr : Nat × Nat), W.heap[i]? = some (Obj.cells cs 5 fr)) : Fra g W W1 :=
  ⟨h.size, fun k o hk ho hn => (h.block k (blk_lt' ho) (fun e => by
    rcases hr k e.symm with he | ⟨cs, fr, he⟩
    · exact hk he
    · rw [ho] at he; cases he; exact hn _ _ rfl)).trans ho⟩
theorem Fra.at {g : Nat} {W W1 : World} (h : Fra g W W1) {k : Nat} {cs : Array Value} {T : TypeId} {fr : Nat × Nat} (hk : k ≠ g) (ho : W.heap[k]? = some (.cells cs T fr)) (hT : T ≠ 5) : W1.heap[k]? = some (.cells cs T fr) := h.2 k _ hk ho fun _ _ e => by cases e; exact hT rfl
theorem set_grown (W : World) (g o : Nat) (v : Value) : W.grownBy (W.setCell ⟨g, o, none⟩ v) (some g) :=
  ⟨rfl, rfl, rfl, by rw [World.size_setCell]; exact Nat.le_refl _, fun k hk hne => Below.heap_setCell W ⟨g, o, none⟩ v k (fun e => hne (by rw [e]))⟩
/-- The printer at block g holds bs. -/
structure Pr (w0 : World) (g : Nat) (bs : List Int) (W : World) : Prop where
  row : ∃ v, W.heap[g]? = some (.cells #[v] 49 (0, 0)) ∧ kByte.R 5 W w0.heap.size (fun _ => True) v bs
  low : Below w0.heap.size w0 W
  ge : w0.heap.size ≤ g
theorem Pr.below {w0 W W1 : World} {g : Nat} {bs : List Int} (h : Pr w0 g bs W) (hb : Below W.heap.size W W1) : Pr w0 g bs W1 := by
  obtain ⟨⟨v, h1, h2⟩, h3, h4⟩ := h
  exact ⟨⟨v, blk_below h1 hb, Kd.R_below h2 hb⟩, bel_call h3 hb, h4⟩
/-- The box is given another row. -/
theorem Pr.set {w0 W : World} {g : Nat} {v v1 : Value} {bs : List Int} (hg : W.heap[g]? = some (.cells #[v] 49 (0, 0))) (hr : kByte.R 5 W w0.heap.size (fun _ => True) v1 bs) (hb : Below w0.heap.size w0 W) (hge : w0.heap.size ≤ g) : Pr w0 g bs (W.setCell ⟨g, 0, none⟩ v1) := by
  refine ⟨⟨v1, ?_, ?_⟩, hb.grown (set_grown W g 0 v1) hb.size (fun k hk => by cases hk; exact hge), hge⟩
  · have := blk_set hg 0 v1
    simpa only [List.setIfInBounds_toArray, List.set_cons_zero] using this
  · refine Kd.R_grown (Kd.R_mono (Kd.R_bound hr) (ok' := fun k => k ≠ g) ?_) (set_grown W g 0 v1) (fun k hk e => by cases e; exact hk rfl) |> fun h => Kd.R_mono h fun _ _ => trivial
    rintro k ⟨_, _, _, q, hq, cells, hc⟩ rfl
    rw [hg] at hc
    cases hc
    revert hq
    decide
theorem box_grown {W W1 : World} {g base : Nat} {ok : Nat → Prop} {cs : Array Value} {fr : Nat × Nat} {v : Value} {xs : List Int} (hG : W.heap[g]? = some (.cells cs 49 fr)) (hR : kByte.R 5 W base ok v xs) (hg : W.grownBy W1 v.ownBlock) : W1.heap[g]? = some (.cells cs 49 fr) :=
  (hg.block g (blk_lt' hG) (fun e => by
    obtain ⟨cs2, fr2, h⟩ := Ty.row hR g e.symm
    rw [hG] at h; cases h)).trans hG
section
variable (w : World)
set_option maxRecDepth 100000 in
set_option maxHeartbeats 2000000 in
theorem impl_word (w0 : World) (g : Nat) (bs : List Int) (st : ByteArray) (hp : Pr w0 g bs w) (hl : bs.length + st.size ≤ 100000000) :
    Calls Tryd.prog 22 #[.pointer (some ⟨g, 0, none⟩), .string st] w fun e w' => e = .returned (.tuple #[]) ∧ Pr w0 g (bs ++ (ofU st.data.toList ++ [32])) w' ∧ Fra g w w' := by
  obtain ⟨⟨v, h1, h2⟩, h3, h4⟩ := hp
  have HG := Aside0.mk h1; have HR := Aside0.mk h2; have HB := Aside0.mk h3; have HE := Aside0.mk h4; have HL := Aside0.mk hl; clear h1 h2 h3 h4 hl
  obtain ⟨A, c, rfl⟩ := Kd.R_slice HR.out
  have HOL := Aside0.mk (ofU_len st)
  go_enter Tryd.func22, Tryd.ntmps22
  obtain ⟨g1, g2⟩ := lay (Below.refl _ _) HG.out
  go_wp2_with (refine str_append (w0 := w0) rfl _ _ 28 9 5 rfl Tryd.underlying28 Tryd.underlying9 (by kernel_rfl) (.slice A bs.length c) bs st rfl rfl HR.out HB.out (by have := HL.out; omega) ?_; intro v1 w1 hr hb hg; have HSL := Aside0.mk (show (bs ++ ofU st.data.toList).length ≤ 100000000 by rw [List.length_append, HOL.out]; exact HL.out); have HAS := Aside0.mk (show bs ++ (ofU st.data.toList ++ [32]) = (bs ++ ofU st.data.toList) ++ [32] from (List.append_assoc _ _ _).symm); generalize bs ++ ofU st.data.toList = us at hr HSL HAS; have HR1 := Aside0.mk hr; have HB1 := Aside0.mk hb; have HG1 := Aside0.mk hg; clear hr hb hg g1 g2; obtain ⟨A1, c1, rfl⟩ := Kd.R_slice HR1.out; refine Hid.out ?_)
  refine Lib.hid ?_
  have HF1 := Aside0.mk (Fra.grown (g := g) HG1.out (fun i hi => .inr (Ty.row HR.out i hi)))
  have HGb := Aside0.mk (box_grown HG.out HR.out HG1.out)
  clear HG1
  go_wp2_with (refine Kd.flat_append_row kByte rfl (w0 := w0) w0.heap.size rfl _ _ 28 5 0 1 rfl Tryd.underlying28 (by kernel_rfl) (by decide) (by decide) (.slice A1 us.length c1) us [32] _ _ _ rfl rfl (Kd.R_alloc HR1.out (.cells #[.int .u8 32] 5)) (Kd.R_reads' (flat_lit (d := kByte) rfl w1 w0.heap.size 5 [32] HB1.out.size (le1 _))).2.2 (HB1.out.alloc HB1.out.size (.cells #[.int .u8 32] 5)) (Nat.le_trans HB1.out.size (World.grownBy_alloc w1 (.cells #[.int .u8 32] 5) none).size) (by have := HSL.out; simp; omega) ?_; intro v2 w2 hr hb hg _; generalize us ++ [32] = vs at hr HAS; have HR2 := Aside0.mk hr; have HB2 := Aside0.mk hb; have HG2 := Aside0.mk (box_grown (blk_box HGb.out (.cells #[.int .u8 32] 5)) (Kd.R_alloc HR1.out (.cells #[.int .u8 32] 5)) hg); have HF2 := Aside0.mk (((HF1.out.trans (Fra.below (below_alloc (Below.refl _ _) (.cells #[.int .u8 32] 5)))).trans (Fra.grown (g := g) hg (fun i hi => .inr (Ty.row (Kd.R_alloc HR1.out (.cells #[.int .u8 32] 5)) i hi))))); clear hr hb hg; obtain ⟨A2, c2, rfl⟩ := Kd.R_slice HR2.out; obtain ⟨g1, g2⟩ := lay (Below.refl _ _) HG2.out)
  refine bodyPost_end (v := .tuple #[]) (by simp [results, Tryd.results22, go_sem]) rfl ⟨rfl, ?_⟩
  rw [HAS.out]
  exact ⟨Pr.set HG2.out HR2.out HB2.out HE.out, HF2.out.trans (Fra.grown (set_grown _ _ _ _) (fun i hi => by cases hi; exact .inl rfl))⟩
end
end Go.Proofs.YteefopaoodfapaaDoor.L1
