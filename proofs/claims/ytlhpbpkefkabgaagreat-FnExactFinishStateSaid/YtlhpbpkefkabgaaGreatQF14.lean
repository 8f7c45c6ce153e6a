/- The law FnExactValidCode: what came in is opened, and the law's own walk. What a route costs, as the program tells it. The law FnExactCost's own walk. The law FnExactValidState's own walk; a state that came in is opened. The machine of the code: plain law. The machine's single values, of the reference and of the program. -/
import Derived.Test.YtlhpbpkefkabgaaGreatQF10
import Derived.Test.YtlhpbpkefkabgaaGreatQF6
import Derived.Test.YtlhpbpkefkabgaaGreatQF13
namespace Go.Proofs.YtlhpbpkefkabgaaGreat.L1
open Go.RowKit Go.Proofs.YtlhpbpkefkabgaaGreatW.PrintWords Go.Proofs.YtlhpbpkefkabgaaGreat.B
set_option linter.unusedVariables false
set_option linter.unusedSimpArgs false
attribute [local go_sem] mk_cell mk_frozen
section
variable {H : Type} {enc : TypeId × Value → H} {w : World} {base : Nat} {spare : Nat → Bool} {held : Bool}
theorem open_agg {P : Program} {r : Reach} {b0 : Nat} {t : TypeId} {fs : Array Field} {v : Value} {d : DataW H} {p : List MemPlace} (hs : P.underlying t = some (.struct fs)) (hone : Deep.oneCellFields P fs = true) (hC : P.cellsOf t = fs.size)
    (hv : Value.okWide P w r b0 t v) (h : DataW.Trod enc P w base spare held t v d p) :
    ∃ cs : Array Value, v = .agg cs ∧ cs.size = fs.size ∧ ∀ (i : Nat) (f : Field), fs[i]? = some f → ∃ u n y, cs[i]? = some u ∧ DataW.trod enc P w base spare held n f.type [u] = some y := by
  obtain ⟨cs, rfl, hsz⟩ := Go.WideShapes.okWide_struct hs hv
  obtain ⟨fuel, hf⟩ := h
  obtain ⟨xs, n, _, _, _, hl, hx⟩ := DataW.trod_struct hs hf
  refine ⟨cs, rfl, hsz.trans hC, fun i f hif => ?_⟩
  have hi : i < fs.size := by
    rcases Nat.lt_or_ge i fs.size with h | h
    · exact h
    · rw [Array.getElem?_eq_none h] at hif; cases hif
  have hic : i < cs.size := by omega
  obtain ⟨o, k⟩ := Deep.hone_of hone i f hif
  have h1 := hx i f hif
  rw [List.getElem?_eq_getElem (by omega)] at h1
  refine ⟨cs[i], n, xs[i], by simp [hic], ?_⟩
  have e : ((Value.agg cs).cells.toList.drop f.offset).take (P.cellsOf f.type) = [cs[i]] := by
    rw [o, k]
    show (cs.toList.drop i).take 1 = _
    rw [List.drop_eq_getElem_cons (by simpa using hic)]
    simp
  rw [e] at h1
  exact h1
theorem five {cs : Array Value} (h : cs.size = 5) : ∃ v0 v1 v2 v3 v4, cs = #[v0, v1, v2, v3, v4] := by
  obtain ⟨l⟩ := cs
  match l, h with
  | [a, b, c, d, e], _ => exact ⟨a, b, c, d, e, rfl⟩
theorem open_ins (n : Nat) (cs : List Value) (x : DataW H × List MemPlace) (h : DataW.trod enc Tryz.prog w base spare held n 103 cs = some x) : ∃ y : Ins, kIns.K w y cs := by
  obtain ⟨zs, hl, rfl⟩ := Open.flat_ints 3 _ 4 n cs x (by kernel_rfl) h
  match zs, hl with
  | [a0, a1, a2, a3], _ => exact ⟨⟨a0, a1, a2, a3⟩, rfl⟩
set_option maxRecDepth 100000 in
/-- Code that came in, by value. -/
theorem open_code {r : Reach} {b0 : Nat} {v : Value} {d : DataW H} {p : List MemPlace} (hv : Value.okWide Tryz.prog w r b0 24 v) (h : DataW.Trod enc Tryz.prog w base spare held 24 v d p) : ∃ x, ReadCode w v x := by
  obtain ⟨cs, rfl, hsz, hf⟩ := open_agg (Tryz.underlying24) (by kernel_rfl) (by kernel_rfl) hv h
  obtain ⟨v0, v1, v2, v3, v4, rfl⟩ := five hsz
  obtain ⟨u0, n0, y0, e0, g0⟩ := hf 0 _ rfl
  obtain ⟨u1, n1, y1, e1, g1⟩ := hf 1 _ rfl
  obtain ⟨u2, n2, y2, e2, h0⟩ := hf 2 _ rfl
  obtain ⟨u3, n3, y3, e3, h1⟩ := hf 3 _ rfl
  obtain ⟨u4, n4, y4, e4, h2⟩ := hf 4 _ rfl
  simp only [List.getElem?_toArray, List.getElem?_cons_zero, List.getElem?_cons_succ, Option.some.injEq] at e0 e1 e2 e3 e4
  subst e0 e1 e2 e3 e4
  obtain ⟨z0, f0, _, _⟩ := DataW.trod_int (Tryz.underlying2) g0
  obtain ⟨z1, f1, _, _⟩ := DataW.trod_int (Tryz.underlying2) g1
  obtain ⟨A0, c0, vs, e0, r0⟩ := Open.open_C kIns (Tryz.underlying22) (by kernel_rfl) open_ins h0
  obtain ⟨A1, c1, qs, e1, r1⟩ := Open.open_C kIns (Tryz.underlying22) (by kernel_rfl) open_ins h1
  obtain ⟨A2, c2, rs, e2, r2⟩ := Open.open_C kIns (Tryz.underlying22) (by kernel_rfl) open_ins h2
  simp only [List.cons.injEq, and_true] at f0 f1 e0 e1 e2
  subst f0 f1 e0 e1 e2
  exact ⟨⟨z0, z1, vs, qs, rs⟩, A0, c0, A1, c1, A2, c2, rfl, r0, r1, r2⟩
end
theorem bel10 {w W : World} {a0 a1 a2 a3 a4 a5 a6 a7 a8 a9 : Addr} {v0 v1 v2 v3 v4 v5 v6 v7 v8 v9 : Value} (h : W.cell? a0 = some v0 ∧ W.cell? a1 = some v1 ∧ W.cell? a2 = some v2 ∧ W.cell? a3 = some v3 ∧ W.cell? a4 = some v4 ∧ W.cell? a5 = some v5 ∧ W.cell? a6 = some v6 ∧ W.cell? a7 = some v7 ∧ W.cell? a8 = some v8 ∧ W.cell? a9 = some v9 ∧ Below w.heap.size w W) : Below w.heap.size w W := h.2.2.2.2.2.2.2.2.2.2
section
variable (w : World)
end
end Go.Proofs.YtlhpbpkefkabgaaGreat.L1
namespace Go.Proofs.YtlhpbpkefkabgaaGreat.L1
open Go.RowKit Go.Proofs.YtlhpbpkefkabgaaGreatW.PrintWords Go.Proofs.YtlhpbpkefkabgaaGreat.B
set_option linter.unusedVariables false
set_option linter.unusedSimpArgs false
attribute [local go_sem] mk_cell mk_frozen
section
variable (w : World)
theorem Inst.routeOk_road {x : Inst} {v : Int} {xs : List Int} : x.routeOk v xs = (x.valid && inB v 0 (x.vs.length - 1) && x.roadOk xs) := by
  unfold Inst.routeOk Inst.roadOk; rw [Bool.and_assoc]
end
end Go.Proofs.YtlhpbpkefkabgaaGreat.L1
namespace Go.Proofs.YtlhpbpkefkabgaaGreat.L1
open Go.RowKit Go.Proofs.YtlhpbpkefkabgaaGreatW.PrintWords Go.Proofs.YtlhpbpkefkabgaaGreat.B
set_option linter.unusedVariables false
set_option linter.unusedSimpArgs false
attribute [local go_sem] mk_cell mk_frozen
section
variable {H : Type} {enc : TypeId × Value → H} {w : World} {base : Nat} {spare : Nat → Bool} {held : Bool}
theorem open_one (n : Nat) (cs : List Value) (x : DataW H × List MemPlace) (h : DataW.trod enc Tryz.prog w base spare held n 2 cs = some x) : ∃ y : Int, kInt.K w y cs := by
  obtain ⟨zs, hl, rfl⟩ := Open.flat_ints 1 _ 1 n cs x (by kernel_rfl) h
  match zs, hl with
  | [a0], _ => exact ⟨a0, rfl⟩
set_option maxRecDepth 100000 in
/-- A row of whole numbers that came in. -/
theorem open_ints {r : Reach} {b0 : Nat} {v : Value} {d : DataW H} {p : List MemPlace} (hv : Value.okWide Tryz.prog w r b0 30 v) (h : DataW.Trod enc Tryz.prog w base spare held 30 v d p) : ∃ xs, ReadInts w v xs := by
  obtain ⟨a0, len, cap, rfl⟩ := Go.WideShapes.okWide_slice Tryz.underlying30 hv
  obtain ⟨m, hm⟩ := h
  obtain ⟨A, c, xs, e, r⟩ := Open.open_C kInt (Tryz.underlying30) (by kernel_rfl) open_one hm
  have e1 : [Value.slice a0 len cap] = [Value.slice A xs.length c] := e
  simp only [List.cons.injEq, and_true] at e1
  exact ⟨xs, A, c, e1, r⟩
end
section
variable (w : World)
end
end Go.Proofs.YtlhpbpkefkabgaaGreat.L1
namespace Go.Proofs.YtlhpbpkefkabgaaGreat.L1
open Go.RowKit Go.Proofs.YtlhpbpkefkabgaaGreatW.PrintWords Go.Proofs.YtlhpbpkefkabgaaGreat.B
set_option linter.unusedVariables false
set_option linter.unusedSimpArgs false
attribute [local go_sem] mk_cell mk_frozen
theorem keepC17 {w W w1 : World} {a0 a1 a2 a3 a4 a5 a6 a7 a8 a9 a10 a11 a12 a13 a14 a15 a16 : Addr} {v0 v1 v2 v3 v4 v5 v6 v7 v8 v9 v10 v11 v12 v13 v14 v15 v16 : Value} (h : W.cell? a0 = some v0 ∧ W.cell? a1 = some v1 ∧ W.cell? a2 = some v2 ∧ W.cell? a3 = some v3 ∧ W.cell? a4 = some v4 ∧ W.cell? a5 = some v5 ∧ W.cell? a6 = some v6 ∧ W.cell? a7 = some v7 ∧ W.cell? a8 = some v8 ∧ W.cell? a9 = some v9 ∧ W.cell? a10 = some v10 ∧ W.cell? a11 = some v11 ∧ W.cell? a12 = some v12 ∧ W.cell? a13 = some v13 ∧ W.cell? a14 = some v14 ∧ W.cell? a15 = some v15 ∧ W.cell? a16 = some v16 ∧ Below w.heap.size w W) (hb : Below W.heap.size W w1) : w1.cell? a0 = some v0 ∧ w1.cell? a1 = some v1 ∧ w1.cell? a2 = some v2 ∧ w1.cell? a3 = some v3 ∧ w1.cell? a4 = some v4 ∧ w1.cell? a5 = some v5 ∧ w1.cell? a6 = some v6 ∧ w1.cell? a7 = some v7 ∧ w1.cell? a8 = some v8 ∧ w1.cell? a9 = some v9 ∧ w1.cell? a10 = some v10 ∧ w1.cell? a11 = some v11 ∧ w1.cell? a12 = some v12 ∧ w1.cell? a13 = some v13 ∧ w1.cell? a14 = some v14 ∧ w1.cell? a15 = some v15 ∧ w1.cell? a16 = some v16 ∧ Below w.heap.size w w1 := ⟨pw_cell_below hb h.1, pw_cell_below hb h.2.1, pw_cell_below hb h.2.2.1, pw_cell_below hb h.2.2.2.1, pw_cell_below hb h.2.2.2.2.1, pw_cell_below hb h.2.2.2.2.2.1, pw_cell_below hb h.2.2.2.2.2.2.1, pw_cell_below hb h.2.2.2.2.2.2.2.1, pw_cell_below hb h.2.2.2.2.2.2.2.2.1, pw_cell_below hb h.2.2.2.2.2.2.2.2.2.1, pw_cell_below hb h.2.2.2.2.2.2.2.2.2.2.1, pw_cell_below hb h.2.2.2.2.2.2.2.2.2.2.2.1, pw_cell_below hb h.2.2.2.2.2.2.2.2.2.2.2.2.1, pw_cell_below hb h.2.2.2.2.2.2.2.2.2.2.2.2.2.1, pw_cell_below hb h.2.2.2.2.2.2.2.2.2.2.2.2.2.2.1, pw_cell_below hb h.2.2.2.2.2.2.2.2.2.2.2.2.2.2.2.1, pw_cell_below hb h.2.2.2.2.2.2.2.2.2.2.2.2.2.2.2.2.1, bel_call h.2.2.2.2.2.2.2.2.2.2.2.2.2.2.2.2.2 hb⟩
theorem belC17 {w W : World} {a0 a1 a2 a3 a4 a5 a6 a7 a8 a9 a10 a11 a12 a13 a14 a15 a16 : Addr} {v0 v1 v2 v3 v4 v5 v6 v7 v8 v9 v10 v11 v12 v13 v14 v15 v16 : Value} (h : W.cell? a0 = some v0 ∧ W.cell? a1 = some v1 ∧ W.cell? a2 = some v2 ∧ W.cell? a3 = some v3 ∧ W.cell? a4 = some v4 ∧ W.cell? a5 = some v5 ∧ W.cell? a6 = some v6 ∧ W.cell? a7 = some v7 ∧ W.cell? a8 = some v8 ∧ W.cell? a9 = some v9 ∧ W.cell? a10 = some v10 ∧ W.cell? a11 = some v11 ∧ W.cell? a12 = some v12 ∧ W.cell? a13 = some v13 ∧ W.cell? a14 = some v14 ∧ W.cell? a15 = some v15 ∧ W.cell? a16 = some v16 ∧ Below w.heap.size w W) : Below w.heap.size w W := h.2.2.2.2.2.2.2.2.2.2.2.2.2.2.2.2.2
theorem keepC18 {w W w1 : World} {a0 a1 a2 a3 a4 a5 a6 a7 a8 a9 a10 a11 a12 a13 a14 a15 a16 a17 : Addr} {v0 v1 v2 v3 v4 v5 v6 v7 v8 v9 v10 v11 v12 v13 v14 v15 v16 v17 : Value} (h : W.cell? a0 = some v0 ∧ W.cell? a1 = some v1 ∧ W.cell? a2 = some v2 ∧ W.cell? a3 = some v3 ∧ W.cell? a4 = some v4 ∧ W.cell? a5 = some v5 ∧ W.cell? a6 = some v6 ∧ W.cell? a7 = some v7 ∧ W.cell? a8 = some v8 ∧ W.cell? a9 = some v9 ∧ W.cell? a10 = some v10 ∧ W.cell? a11 = some v11 ∧ W.cell? a12 = some v12 ∧ W.cell? a13 = some v13 ∧ W.cell? a14 = some v14 ∧ W.cell? a15 = some v15 ∧ W.cell? a16 = some v16 ∧ W.cell? a17 = some v17 ∧ Below w.heap.size w W) (hb : Below W.heap.size W w1) : w1.cell? a0 = some v0 ∧ w1.cell? a1 = some v1 ∧ w1.cell? a2 = some v2 ∧ w1.cell? a3 = some v3 ∧ w1.cell? a4 = some v4 ∧ w1.cell? a5 = some v5 ∧ w1.cell? a6 = some v6 ∧ w1.cell? a7 = some v7 ∧ w1.cell? a8 = some v8 ∧ w1.cell? a9 = some v9 ∧ w1.cell? a10 = some v10 ∧ w1.cell? a11 = some v11 ∧ w1.cell? a12 = some v12 ∧ w1.cell? a13 = some v13 ∧ w1.cell? a14 = some v14 ∧ w1.cell? a15 = some v15 ∧ w1.cell? a16 = some v16 ∧ w1.cell? a17 = some v17 ∧ Below w.heap.size w w1 := ⟨pw_cell_below hb h.1, pw_cell_below hb h.2.1, pw_cell_below hb h.2.2.1, pw_cell_below hb h.2.2.2.1, pw_cell_below hb h.2.2.2.2.1, pw_cell_below hb h.2.2.2.2.2.1, pw_cell_below hb h.2.2.2.2.2.2.1, pw_cell_below hb h.2.2.2.2.2.2.2.1, pw_cell_below hb h.2.2.2.2.2.2.2.2.1, pw_cell_below hb h.2.2.2.2.2.2.2.2.2.1, pw_cell_below hb h.2.2.2.2.2.2.2.2.2.2.1, pw_cell_below hb h.2.2.2.2.2.2.2.2.2.2.2.1, pw_cell_below hb h.2.2.2.2.2.2.2.2.2.2.2.2.1, pw_cell_below hb h.2.2.2.2.2.2.2.2.2.2.2.2.2.1, pw_cell_below hb h.2.2.2.2.2.2.2.2.2.2.2.2.2.2.1, pw_cell_below hb h.2.2.2.2.2.2.2.2.2.2.2.2.2.2.2.1, pw_cell_below hb h.2.2.2.2.2.2.2.2.2.2.2.2.2.2.2.2.1, pw_cell_below hb h.2.2.2.2.2.2.2.2.2.2.2.2.2.2.2.2.2.1, bel_call h.2.2.2.2.2.2.2.2.2.2.2.2.2.2.2.2.2.2 hb⟩
theorem belC18 {w W : World} {a0 a1 a2 a3 a4 a5 a6 a7 a8 a9 a10 a11 a12 a13 a14 a15 a16 a17 : Addr} {v0 v1 v2 v3 v4 v5 v6 v7 v8 v9 v10 v11 v12 v13 v14 v15 v16 v17 : Value} (h : W.cell? a0 = some v0 ∧ W.cell? a1 = some v1 ∧ W.cell? a2 = some v2 ∧ W.cell? a3 = some v3 ∧ W.cell? a4 = some v4 ∧ W.cell? a5 = some v5 ∧ W.cell? a6 = some v6 ∧ W.cell? a7 = some v7 ∧ W.cell? a8 = some v8 ∧ W.cell? a9 = some v9 ∧ W.cell? a10 = some v10 ∧ W.cell? a11 = some v11 ∧ W.cell? a12 = some v12 ∧ W.cell? a13 = some v13 ∧ W.cell? a14 = some v14 ∧ W.cell? a15 = some v15 ∧ W.cell? a16 = some v16 ∧ W.cell? a17 = some v17 ∧ Below w.heap.size w W) : Below w.heap.size w W := h.2.2.2.2.2.2.2.2.2.2.2.2.2.2.2.2.2.2
theorem belC10 {w W : World} {a0 a1 a2 a3 a4 a5 a6 a7 a8 a9 : Addr} {v0 v1 v2 v3 v4 v5 v6 v7 v8 v9 : Value} (h : W.cell? a0 = some v0 ∧ W.cell? a1 = some v1 ∧ W.cell? a2 = some v2 ∧ W.cell? a3 = some v3 ∧ W.cell? a4 = some v4 ∧ W.cell? a5 = some v5 ∧ W.cell? a6 = some v6 ∧ W.cell? a7 = some v7 ∧ W.cell? a8 = some v8 ∧ W.cell? a9 = some v9 ∧ Below w.heap.size w W) : Below w.heap.size w W := h.2.2.2.2.2.2.2.2.2.2
theorem belC6 {w W : World} {a0 a1 a2 a3 a4 a5 : Addr} {v0 v1 v2 v3 v4 v5 : Value} (h : W.cell? a0 = some v0 ∧ W.cell? a1 = some v1 ∧ W.cell? a2 = some v2 ∧ W.cell? a3 = some v3 ∧ W.cell? a4 = some v4 ∧ W.cell? a5 = some v5 ∧ Below w.heap.size w W) : Below w.heap.size w W := h.2.2.2.2.2.2
section
variable {H : Type} {enc : TypeId × Value → H} {w : World} {base : Nat} {spare : Nat → Bool} {held : Bool}
theorem nine {cs : Array Value} (h : cs.size = 9) : ∃ v0 v1 v2 v3 v4 v5 v6 v7 v8, cs = #[v0, v1, v2, v3, v4, v5, v6, v7, v8] := by
  obtain ⟨l⟩ := cs
  match l, h with
  | [a, b, c, d, e, f, g, h, i], _ => exact ⟨a, b, c, d, e, f, g, h, i, rfl⟩
set_option maxRecDepth 100000 in
/-- A state that came in, by value. -/
theorem open_state {r : Reach} {b0 : Nat} {v : Value} {d : DataW H} {p : List MemPlace} (hv : Value.okWide Tryz.prog w r b0 32 v) (h : DataW.Trod enc Tryz.prog w base spare held 32 v d p) : ∃ x, ReadState w v x := by
  obtain ⟨cs, rfl, hsz, hf⟩ := open_agg (Tryz.underlying32) (by kernel_rfl) (by kernel_rfl) hv h
  obtain ⟨v0, v1, v2, v3, v4, v5, v6, v7, v8, rfl⟩ := nine hsz
  obtain ⟨u0, n0, y0, e0, h0⟩ := hf 0 _ rfl
  obtain ⟨u1, n1, y1, e1, h1⟩ := hf 1 _ rfl
  obtain ⟨u2, n2, y2, e2, h2⟩ := hf 2 _ rfl
  obtain ⟨u3, n3, y3, e3, h3⟩ := hf 3 _ rfl
  obtain ⟨u4, n4, y4, e4, h4⟩ := hf 4 _ rfl
  obtain ⟨u5, n5, y5, e5, h5⟩ := hf 5 _ rfl
  obtain ⟨u6, n6, y6, e6, h6⟩ := hf 6 _ rfl
  obtain ⟨u7, n7, y7, e7, h7⟩ := hf 7 _ rfl
  obtain ⟨u8, n8, y8, e8, h8⟩ := hf 8 _ rfl
  simp only [List.getElem?_toArray, List.getElem?_cons_zero, List.getElem?_cons_succ, Option.some.injEq] at e0 e1 e2 e3 e4 e5 e6 e7 e8
  subst e0 e1 e2 e3 e4 e5 e6 e7 e8
  obtain ⟨z0, f0, _, _⟩ := DataW.trod_int (Tryz.underlying2) h0
  obtain ⟨z1, f1, _, _⟩ := DataW.trod_int (Tryz.underlying2) h1
  obtain ⟨z2, f2, _, _⟩ := DataW.trod_int (Tryz.underlying2) h2
  obtain ⟨z3, f3, _, _⟩ := DataW.trod_int (Tryz.underlying2) h3
  obtain ⟨z4, f4, _, _⟩ := DataW.trod_int (Tryz.underlying2) h4
  obtain ⟨z5, f5, _, _⟩ := DataW.trod_int (Tryz.underlying2) h5
  obtain ⟨A6, c6, l6, f6, r6⟩ := Open.open_C kInt (Tryz.underlying30) (by kernel_rfl) open_one h6
  obtain ⟨A7, c7, l7, f7, r7⟩ := Open.open_C kInt (Tryz.underlying30) (by kernel_rfl) open_one h7
  obtain ⟨A8, c8, l8, f8, r8⟩ := Open.open_C kInt (Tryz.underlying30) (by kernel_rfl) open_one h8
  simp only [List.cons.injEq, and_true] at f0 f1 f2 f3 f4 f5 f6 f7 f8
  subst f0 f1 f2 f3 f4 f5 f6 f7 f8
  exact ⟨⟨z0, z1, z2, z3, z4, z5, l6, l7, l8⟩, A6, c6, A7, c7, A8, c8, rfl, r6, r7, r8⟩
end
section
variable (w : World)
end
end Go.Proofs.YtlhpbpkefkabgaaGreat.L1
namespace Go.Proofs.YtlhpbpkefkabgaaGreat.L1
open Go.RowKit Go.Proofs.YtlhpbpkefkabgaaGreatW.PrintWords Go.Proofs.YtlhpbpkefkabgaaGreat.B
set_option linter.unusedVariables false
set_option linter.unusedSimpArgs false
def satMul (a b : Int) : Int := clampI (clampI a * clampI b)
def bitI (b : Bool) : Int := if b then 1 else 0
def maxI (a b : Int) : Int := if b < a then a else b
/-- What a block runs for: the tags, the request or -1, how many there are. -/
structure Env where (tags skills q reqs : Int)
structure Mem where (regs slots : List Int) (rule : Int)
def atI (xs : List Int) (k : Int) : Int := xs.getD k.toNat 0
def putI (xs : List Int) (k x : Int) : List Int := xs.set k.toNat x
def tagOf (set t : Int) : Bool := set / 2 ^ t.toNat % 2 == 1
def binV (v a b : Int) : Int :=
  if v = 0 then satMul a b else if v = 1 then satAdd a b else if v = 2 then satAdd a (-b) else if v = 3 then bitI (decide (a < b)) else if v = 4 then bitI (decide (a ≤ b))
  else if v = 5 then bitI (a == b) else if v = 6 then bitI (a != 0 && b != 0) else bitI (a != 0 || b != 0)
def insV (E : Env) (m : Mem) (x : Ins) : Int :=
  if x.op = 1 then x.b else if x.op = 2 then atI m.regs x.b else if x.op = 3 then -atI m.regs x.b else if x.op = 4 then bitI (atI m.regs x.b == 0)
  else if x.op = 13 then bitI (decide (0 ≤ E.q) && tagOf E.tags x.b) else if x.op = 14 then bitI (tagOf E.skills x.b)
  else if x.op = 20 then (if E.q < 0 then 0 else atI m.slots (x.b * E.reqs + E.q))
  else if x.op = 12 then maxI (atI m.regs x.b) (atI m.regs x.c) else if x.op = 11 then -maxI (-atI m.regs x.b) (-atI m.regs x.c)
  else binV (x.op - 5) (atI m.regs x.b) (atI m.regs x.c)
/-- One instruction: where to go on, the memory behind it. -/
def stepI (E : Env) (k : Nat) (m : Mem) (x : Ins) : Nat × Mem :=
  if x.op = 17 then (x.b.toNat, m)
  else if x.op = 15 then (if atI m.regs x.a = 0 then x.b.toNat else k + 1, m)
  else if x.op = 16 then (if atI m.regs x.a = 0 then k + 1 else x.b.toNat, m)
  else if x.op = 18 then (if atI m.regs x.a = 0 then (16384, { m with rule := x.b }) else (k + 1, m))
  else if x.op = 19 then (k + 1, if E.q < 0 then m else { m with slots := putI m.slots (x.a * E.reqs + E.q) (atI m.regs x.b) })
  else (k + 1, { m with regs := putI m.regs x.a (insV E m x) })
def exec (E : Env) (b : List Ins) : Nat → Nat → Mem → Mem
  | 0, _, m => m
  | f + 1, k, m => if b.length ≤ k then m else exec E b f (stepI E k m (b.getD k zIns)).1 (stepI E k m (b.getD k zIns)).2
theorem exec_end {E : Env} {b : List Ins} {f k : Nat} {m : Mem} (h : b.length ≤ k) : exec E b f k m = m := by
  cases f with
  | zero => rfl
  | succ f => unfold exec; rw [if_pos h]
theorem exec_step {E : Env} {b : List Ins} {f k : Nat} {m : Mem} (h : k < b.length) : exec E b (f + 1) k m = exec E b f (stepI E k m (b.getD k zIns)).1 (stepI E k m (b.getD k zIns)).2 := by
  show (if b.length ≤ k then m else _) = _
  rw [if_neg (by omega)]
/-- All in the range of the registers. -/
def Cap (xs : List Int) : Prop := ∀ x, x ∈ xs → -1000000000 ≤ x ∧ x ≤ 1000000000
theorem Cap.at {xs : List Int} (h : Cap xs) (k : Int) : -1000000000 ≤ atI xs k ∧ atI xs k ≤ 1000000000 := by
  unfold atI
  rw [List.getD_eq_getElem?_getD]
  cases he : xs[k.toNat]? with
  | none => simp
  | some x => exact h x (List.mem_of_getElem? he)
theorem Cap.put {xs : List Int} (h : Cap xs) (k x : Int) (hx : -1000000000 ≤ x ∧ x ≤ 1000000000) : Cap (putI xs k x) := fun y hy => by
  rcases List.mem_or_eq_of_mem_set hy with h1 | rfl
  · exact h y h1
  · exact hx
structure Mok (E : Env) (regs slots : Int) (m : Mem) : Prop where
  rl : (m.regs.length : Int) = regs
  sl : (m.slots.length : Int) = slots * E.reqs
  rc : Cap m.regs
  sc : Cap m.slots
  q0 : -1 ≤ E.q
  q1 : 0 ≤ E.q → E.q < E.reqs
  r0 : 0 ≤ E.reqs
  r1 : E.reqs ≤ 16384
  t0 : 0 ≤ E.tags
  t1 : E.tags ≤ 65535
  k0 : 0 ≤ E.skills
  k1 : E.skills ≤ 65535
theorem bitI_bd (b : Bool) : 0 ≤ bitI b ∧ bitI b ≤ 1 := by unfold bitI; split <;> omega
theorem maxI_bd {a b : Int} (ha : -1000000000 ≤ a ∧ a ≤ 1000000000) (hb : -1000000000 ≤ b ∧ b ≤ 1000000000) : -1000000000 ≤ maxI a b ∧ maxI a b ≤ 1000000000 := by unfold maxI; split <;> omega
theorem binV_bd (v a b : Int) : -1000000000 ≤ binV v a b ∧ binV v a b ≤ 1000000000 := by
  unfold binV
  have h1 := bitI_bd (decide (a < b)); have h2 := bitI_bd (decide (a ≤ b)); have h3 := bitI_bd (a == b); have h4 := bitI_bd (a != 0 && b != 0); have h5 := bitI_bd (a != 0 || b != 0)
  split
  · exact clamp_bd _
  split
  · exact clamp_bd _
  split
  · exact clamp_bd _
  split
  · omega
  split
  · omega
  split
  · omega
  split <;> omega
theorem insV_bd {E : Env} {m : Mem} {x : Ins} {regs slots k n : Int} (h : Mok E regs slots m) (hx : insOk x.op x.a x.b x.c regs slots k n = true) : -1000000000 ≤ insV E m x ∧ insV E m x ≤ 1000000000 := by
  unfold insV
  have hb := h.rc.at x.b; have hc := h.rc.at x.c; have hs := h.sc.at (x.b * E.reqs + E.q)
  split
  · rename_i h1
    unfold insOk at hx
    rw [if_neg (by omega)] at hx
    split at hx
    · cases hx
    · first | rw [if_pos h1] at hx | skip
      rw [Bool.and_eq_true] at hx
      exact (inB_iff _ _ _).1 hx.2
  split
  · exact hb
  split
  · omega
  split
  · have := bitI_bd (atI m.regs x.b == 0); omega
  split
  · have := bitI_bd (decide (0 ≤ E.q) && tagOf E.tags x.b); omega
  split
  · have := bitI_bd (tagOf E.skills x.b); omega
  split
  · split
    · omega
    · exact hs
  split
  · exact maxI_bd hb hc
  split
  · have := maxI_bd (a := -atI m.regs x.b) (b := -atI m.regs x.c) (by omega) (by omega); omega
  · exact binV_bd _ _ _
theorem stepI_ok {E : Env} {m : Mem} {x : Ins} {regs slots : Int} {k n : Nat} (h : Mok E regs slots m) (hx : insOk x.op x.a x.b x.c regs slots k n = true) : Mok E regs slots (stepI E k m x).2 := by
  unfold stepI
  split
  · exact h
  split
  · exact h
  split
  · exact h
  split
  · split
    · exact ⟨h.rl, h.sl, h.rc, h.sc, h.q0, h.q1, h.r0, h.r1, h.t0, h.t1, h.k0, h.k1⟩
    · exact h
  split
  · show Mok E regs slots (if E.q < 0 then m else _)
    split
    · exact h
    · exact ⟨h.rl, by show ((putI m.slots _ _).length : Int) = _; unfold putI; rw [List.length_set]; exact h.sl, h.rc, h.sc.put _ _ (h.rc.at _), h.q0, h.q1, h.r0, h.r1, h.t0, h.t1, h.k0, h.k1⟩
  · exact ⟨by show ((putI m.regs _ _).length : Int) = _; unfold putI; rw [List.length_set]; exact h.rl, h.sl, h.rc.put _ _ (insV_bd h hx), h.sc, h.q0, h.q1, h.r0, h.r1, h.t0, h.t1, h.k0, h.k1⟩
theorem stepI_next {E : Env} {m : Mem} {x : Ins} {regs slots : Int} {k n : Nat} (hx : insOk x.op x.a x.b x.c regs slots k n = true) (hk : k < n) (hn : n ≤ 16384) : k < (stepI E k m x).1 := by
  unfold stepI
  unfold insOk at hx
  split
  · rename_i h1
    rw [if_neg (by omega)] at hx
    split at hx
    · cases hx
    · simp [h1, inB_iff] at hx
      show k < x.b.toNat
      omega
  split
  · rename_i h0 h1
    rw [if_neg (by omega)] at hx
    split at hx
    · cases hx
    · simp [h1, inB_iff] at hx
      have e : k < x.b.toNat := Int.lt_toNat.2 (by omega)
      show k < (if _ then x.b.toNat else k + 1)
      split <;> first | exact e | exact Nat.lt_succ_self k
  split
  · rename_i h00 h0 h1
    rw [if_neg (by omega)] at hx
    split at hx
    · cases hx
    · simp [h1, inB_iff] at hx
      have e : k < x.b.toNat := Int.lt_toNat.2 (by omega)
      show k < (if _ then k + 1 else x.b.toNat)
      split <;> first | exact e | exact Nat.lt_succ_self k
  split
  · split
    · show k < 16384; omega
    · exact Nat.lt_succ_self k
  split <;> exact Nat.lt_succ_self k
theorem blockOk_at {regs slots : Int} {b : List Ins} (h : blockOk regs slots b = true) {k : Nat} (hk : k < b.length) : insOk (b.getD k zIns).op (b.getD k zIns).a (b.getD k zIns).b (b.getD k zIns).c regs slots k b.length = true := by
  unfold blockOk at h
  rw [Bool.and_eq_true] at h
  exact allI_iff.1 h.2 k hk
theorem blockOk_len {regs slots : Int} {b : List Ins} (h : blockOk regs slots b = true) : b.length ≤ 16384 := by
  unfold blockOk at h
  rw [Bool.and_eq_true] at h
  exact of_decide_eq_true h.1
end Go.Proofs.YtlhpbpkefkabgaaGreat.L1
namespace Go.Proofs.YtlhpbpkefkabgaaGreat.L1
open Go.RowKit Go.Proofs.YtlhpbpkefkabgaaGreatW.PrintWords Go.Proofs.YtlhpbpkefkabgaaGreat.B
set_option linter.unusedVariables false
set_option linter.unusedSimpArgs false
attribute [local go_sem] mk_cell mk_frozen
theorem mul_bd {a b : Int} (ha : -1000000000 ≤ a ∧ a ≤ 1000000000) (hb : -1000000000 ≤ b ∧ b ≤ 1000000000) : -1000000000000000000 ≤ a * b ∧ a * b ≤ 1000000000000000000 := by
  have h1 : a.natAbs ≤ 1000000000 := by omega
  have h2 : b.natAbs ≤ 1000000000 := by omega
  have h3 : (a * b).natAbs ≤ 1000000000 * 1000000000 := by rw [Int.natAbs_mul]; exact Nat.mul_le_mul h1 h2
  omega
section
variable (w : World)
theorem spec_SatMul (a b : Int) : Calls Tryz.prog 122 #[.int .i64 a, .int .i64 b] w fun e w' => e = .returned (.int .i64 (satMul a b)) ∧ w' = w := by
  have q0 : IntKind.i64.wrap (clampI a * clampI b) = clampI a * clampI b := IntWalk.i64_in _ (by have := mul_bd (clamp_bd a) (clamp_bd b); omega)
  go_enter Tryz.func122, Tryz.ntmps122
  go_wp2_with (first | (go_at_call 92; refine (spec_clamp _ _).mono ?_; rintro e w' ⟨rfl, rfl⟩))
  go_ret
  exact ⟨rfl, rfl⟩
theorem impl_SatMul (a b : Int) : Calls Tryz.prog 132 #[.int .i64 a, .int .i64 b] w fun e w' => e = .returned (.int .i64 (satMul a b)) ∧ w' = w := by
  have q0 : IntKind.i64.wrap (clampI a * clampI b) = clampI a * clampI b := IntWalk.i64_in _ (by have := mul_bd (clamp_bd a) (clamp_bd b); omega)
  go_enter Tryz.func132, Tryz.ntmps132
  go_wp2_with (first | (go_at_call 124; refine (impl_clamp _ _).mono ?_; rintro e w' ⟨rfl, rfl⟩))
  go_ret
  exact ⟨rfl, rfl⟩
theorem spec_max (a b : Int) : Calls Tryz.prog 54 #[.int .i64 a, .int .i64 b] w fun e w' => e = .returned (.int .i64 (maxI a b)) ∧ w' = w := by
  go_enter Tryz.func54, Tryz.ntmps54
  go_wp2
  all_goals (go_ret; refine ⟨?_, rfl⟩; unfold maxI; first | (rw [if_pos (by omega)]; rfl) | (rw [if_neg (by omega)]; rfl))
theorem spec_bit (b : Bool) : Calls Tryz.prog 55 #[.bool b] w fun e w' => e = .returned (.int .i64 (bitI b)) ∧ w' = w := by
  go_enter Tryz.func55, Tryz.ntmps55
  cases b <;> go_wp2 <;> (go_ret; exact ⟨rfl, rfl⟩)
theorem impl_flag (b : Bool) : Calls Tryz.prog 104 #[.bool b] w fun e w' => e = .returned (.int .i64 (bitI b)) ∧ w' = w := by
  go_enter Tryz.func104, Tryz.ntmps104
  cases b <;> go_wp2 <;> (go_ret; exact ⟨rfl, rfl⟩)
theorem tag_mod {s t : Int} (h0 : 0 ≤ s) : (s / 2 ^ t.toNat).tmod 2 = s / 2 ^ t.toNat % 2 := Int.tmod_eq_emod_of_nonneg (Int.ediv_nonneg h0 (Int.pow_nonneg (by decide)))
theorem spec_has (s t : Int) (h0 : 0 ≤ s) (h1 : s ≤ 65535) (t0 : 0 ≤ t) (t1 : t ≤ 15) : Calls Tryz.prog 94 #[.int .i64 s, .int .i64 t] w fun e w' => e = .returned (.bool (tagOf s t)) ∧ w' = w := by
  have HT := Aside0.mk (tag_mod (t := t) h0)
  go_enter Tryz.func94, Tryz.ntmps94
  go_wp2
  go_ret
  exact ⟨by show Ending.returned (Value.bool _) = _; rw [HT.out]; rfl, rfl⟩
theorem beq_dec (a b : Int) : (a == b) = decide (a = b) := by cases h : decide (a = b) with | true => exact beq_iff_eq.2 (of_decide_eq_true h) | false => exact beq_eq_false_iff_ne.2 (of_decide_eq_false h)
theorem spec_binVal0 (a b : Int) (ha : -1000000000 ≤ a ∧ a ≤ 1000000000) (hb : -1000000000 ≤ b ∧ b ≤ 1000000000) : Calls Tryz.prog 95 #[.int .i64 0, .int .i64 a, .int .i64 b] w fun e w' => e = .returned (.int .i64 (binV 0 a b)) ∧ w' = w := by
  have q0 : IntKind.i64.wrap (-b) = -b := IntWalk.i64_in _ (by omega)
  have HL := Aside0.mk (show binV 0 a b = satMul a b by unfold binV; rw [if_pos rfl])
  clear ha hb
  go_enter Tryz.func95, Tryz.ntmps95
  go_wp2_with (go_at_call 122; refine (spec_SatMul _ _ _).mono ?_; rintro e w' ⟨rfl, rfl⟩)
  go_ret
  exact ⟨by rw [HL.out]; rfl, rfl⟩
theorem spec_binVal1 (a b : Int) (ha : -1000000000 ≤ a ∧ a ≤ 1000000000) (hb : -1000000000 ≤ b ∧ b ≤ 1000000000) : Calls Tryz.prog 95 #[.int .i64 1, .int .i64 a, .int .i64 b] w fun e w' => e = .returned (.int .i64 (binV 1 a b)) ∧ w' = w := by
  have q0 : IntKind.i64.wrap (-b) = -b := IntWalk.i64_in _ (by omega)
  have HL := Aside0.mk (show binV 1 a b = satAdd a b by unfold binV; rw [if_neg (by decide), if_pos rfl])
  clear ha hb
  go_enter Tryz.func95, Tryz.ntmps95
  go_wp2_with (go_at_call 52; refine (spec_SatAdd _ _ _).mono ?_; rintro e w' ⟨rfl, rfl⟩)
  go_ret
  exact ⟨by rw [HL.out]; rfl, rfl⟩
theorem spec_binVal2 (a b : Int) (ha : -1000000000 ≤ a ∧ a ≤ 1000000000) (hb : -1000000000 ≤ b ∧ b ≤ 1000000000) : Calls Tryz.prog 95 #[.int .i64 2, .int .i64 a, .int .i64 b] w fun e w' => e = .returned (.int .i64 (binV 2 a b)) ∧ w' = w := by
  have q0 : IntKind.i64.wrap (-b) = -b := IntWalk.i64_in _ (by omega)
  have HL := Aside0.mk (show binV 2 a b = satAdd a (-b) by unfold binV; rw [if_neg (by decide), if_neg (by decide), if_pos rfl])
  clear ha hb
  go_enter Tryz.func95, Tryz.ntmps95
  go_wp2_with (go_at_call 52; refine (spec_SatAdd _ _ _).mono ?_; rintro e w' ⟨rfl, rfl⟩)
  go_ret
  exact ⟨by rw [HL.out]; rfl, rfl⟩
theorem spec_binVal3 (a b : Int) (ha : -1000000000 ≤ a ∧ a ≤ 1000000000) (hb : -1000000000 ≤ b ∧ b ≤ 1000000000) : Calls Tryz.prog 95 #[.int .i64 3, .int .i64 a, .int .i64 b] w fun e w' => e = .returned (.int .i64 (binV 3 a b)) ∧ w' = w := by
  have q0 : IntKind.i64.wrap (-b) = -b := IntWalk.i64_in _ (by omega)
  have HL := Aside0.mk (show binV 3 a b = bitI (decide (a < b)) by unfold binV; rw [if_neg (by decide), if_neg (by decide), if_neg (by decide), if_pos rfl])
  clear ha hb
  go_enter Tryz.func95, Tryz.ntmps95
  go_wp2_with (go_at_call 55; refine (spec_bit _ _).mono ?_; rintro e w' ⟨rfl, rfl⟩)
  go_ret
  exact ⟨by rw [HL.out]; rfl, rfl⟩
theorem spec_binVal4 (a b : Int) (ha : -1000000000 ≤ a ∧ a ≤ 1000000000) (hb : -1000000000 ≤ b ∧ b ≤ 1000000000) : Calls Tryz.prog 95 #[.int .i64 4, .int .i64 a, .int .i64 b] w fun e w' => e = .returned (.int .i64 (binV 4 a b)) ∧ w' = w := by
  have q0 : IntKind.i64.wrap (-b) = -b := IntWalk.i64_in _ (by omega)
  have HL := Aside0.mk (show binV 4 a b = bitI (decide (a ≤ b)) by unfold binV; rw [if_neg (by decide), if_neg (by decide), if_neg (by decide), if_neg (by decide), if_pos rfl])
  clear ha hb
  go_enter Tryz.func95, Tryz.ntmps95
  go_wp2_with (go_at_call 55; refine (spec_bit _ _).mono ?_; rintro e w' ⟨rfl, rfl⟩)
  go_ret
  exact ⟨by rw [HL.out]; rfl, rfl⟩
theorem spec_binVal5 (a b : Int) (ha : -1000000000 ≤ a ∧ a ≤ 1000000000) (hb : -1000000000 ≤ b ∧ b ≤ 1000000000) : Calls Tryz.prog 95 #[.int .i64 5, .int .i64 a, .int .i64 b] w fun e w' => e = .returned (.int .i64 (binV 5 a b)) ∧ w' = w := by
  have q0 : IntKind.i64.wrap (-b) = -b := IntWalk.i64_in _ (by omega)
  have HL := Aside0.mk (show binV 5 a b = bitI (a == b) by unfold binV; rw [if_neg (by decide), if_neg (by decide), if_neg (by decide), if_neg (by decide), if_neg (by decide), if_pos rfl])
  clear ha hb
  go_enter Tryz.func95, Tryz.ntmps95
  go_wp2_with (go_at_call 55; refine (spec_bit _ _).mono ?_; rintro e w' ⟨rfl, rfl⟩)
  go_ret
  exact ⟨by rw [HL.out]; rfl, rfl⟩
theorem spec_binVal_and_false (v a b : Int) (hv : v ≠ 0 ∧ v ≠ 1 ∧ v ≠ 2 ∧ v ≠ 3 ∧ v ≠ 4 ∧ v ≠ 5 ∧ v = 6) (hx : (a != 0) = false) : Calls Tryz.prog 95 #[.int .i64 v, .int .i64 a, .int .i64 b] w fun e w' => e = .returned (.int .i64 (binV v a b)) ∧ w' = w := by
  obtain ⟨e0, e1, e2, e3, e4, e5, e6⟩ := hv
  have d0 : (v == 0) = false := beq_eq_false_iff_ne.2 e0; have d1 : (v == 1) = false := beq_eq_false_iff_ne.2 e1; have d2 : (v == 2) = false := beq_eq_false_iff_ne.2 e2; have d3 : (v == 3) = false := beq_eq_false_iff_ne.2 e3; have d4 : (v == 4) = false := beq_eq_false_iff_ne.2 e4; have d5 : (v == 5) = false := beq_eq_false_iff_ne.2 e5
  have c0 : decide (v = 0) = false := decide_eq_false e0; have c1 : decide (v = 1) = false := decide_eq_false e1; have c2 : decide (v = 2) = false := decide_eq_false e2; have c3 : decide (v = 3) = false := decide_eq_false e3; have c4 : decide (v = 4) = false := decide_eq_false e4; have c5 : decide (v = 5) = false := decide_eq_false e5
  have d6 : (v == 6) = true := beq_iff_eq.2 e6; have c6 : decide (v = 6) = true := decide_eq_true e6
  have HL := Aside0.mk (show binV v a b = bitI (a != 0 && b != 0) by unfold binV; rw [if_neg e0, if_neg e1, if_neg e2, if_neg e3, if_neg e4, if_neg e5, if_pos e6])
  clear e0 e1 e2 e3 e4 e5 e6
  have hd : (a == 0) = true := by simpa using hx
  have hd' : decide (a = 0) = true := by simpa using hx
  rw [hx] at HL
  go_enter Tryz.func95, Tryz.ntmps95
  go_wp2_with (go_at_call 55; refine (spec_bit _ _).mono ?_; rintro e w' ⟨rfl, rfl⟩)
  go_ret
  exact ⟨by rw [HL.out]; rfl, rfl⟩
theorem spec_binVal_and_true (v a b : Int) (hv : v ≠ 0 ∧ v ≠ 1 ∧ v ≠ 2 ∧ v ≠ 3 ∧ v ≠ 4 ∧ v ≠ 5 ∧ v = 6) (hx : (a != 0) = true) : Calls Tryz.prog 95 #[.int .i64 v, .int .i64 a, .int .i64 b] w fun e w' => e = .returned (.int .i64 (binV v a b)) ∧ w' = w := by
  obtain ⟨e0, e1, e2, e3, e4, e5, e6⟩ := hv
  have d0 : (v == 0) = false := beq_eq_false_iff_ne.2 e0; have d1 : (v == 1) = false := beq_eq_false_iff_ne.2 e1; have d2 : (v == 2) = false := beq_eq_false_iff_ne.2 e2; have d3 : (v == 3) = false := beq_eq_false_iff_ne.2 e3; have d4 : (v == 4) = false := beq_eq_false_iff_ne.2 e4; have d5 : (v == 5) = false := beq_eq_false_iff_ne.2 e5
  have c0 : decide (v = 0) = false := decide_eq_false e0; have c1 : decide (v = 1) = false := decide_eq_false e1; have c2 : decide (v = 2) = false := decide_eq_false e2; have c3 : decide (v = 3) = false := decide_eq_false e3; have c4 : decide (v = 4) = false := decide_eq_false e4; have c5 : decide (v = 5) = false := decide_eq_false e5
  have d6 : (v == 6) = true := beq_iff_eq.2 e6; have c6 : decide (v = 6) = true := decide_eq_true e6
  have HL := Aside0.mk (show binV v a b = bitI (a != 0 && b != 0) by unfold binV; rw [if_neg e0, if_neg e1, if_neg e2, if_neg e3, if_neg e4, if_neg e5, if_pos e6])
  clear e0 e1 e2 e3 e4 e5 e6
  have hd : (a == 0) = false := by simpa using hx
  have hd' : decide (a = 0) = false := by simpa using hx
  rw [hx] at HL
  go_enter Tryz.func95, Tryz.ntmps95
  go_wp2_with (go_at_call 55; refine (spec_bit _ _).mono ?_; rintro e w' ⟨rfl, rfl⟩)
  go_ret
  exact ⟨by rw [HL.out]; rfl, rfl⟩
theorem spec_binVal_or_false (v a b : Int) (hv : v ≠ 0 ∧ v ≠ 1 ∧ v ≠ 2 ∧ v ≠ 3 ∧ v ≠ 4 ∧ v ≠ 5 ∧ v ≠ 6) (hx : (a != 0) = false) : Calls Tryz.prog 95 #[.int .i64 v, .int .i64 a, .int .i64 b] w fun e w' => e = .returned (.int .i64 (binV v a b)) ∧ w' = w := by
  obtain ⟨e0, e1, e2, e3, e4, e5, e6⟩ := hv
  have d0 : (v == 0) = false := beq_eq_false_iff_ne.2 e0; have d1 : (v == 1) = false := beq_eq_false_iff_ne.2 e1; have d2 : (v == 2) = false := beq_eq_false_iff_ne.2 e2; have d3 : (v == 3) = false := beq_eq_false_iff_ne.2 e3; have d4 : (v == 4) = false := beq_eq_false_iff_ne.2 e4; have d5 : (v == 5) = false := beq_eq_false_iff_ne.2 e5
  have c0 : decide (v = 0) = false := decide_eq_false e0; have c1 : decide (v = 1) = false := decide_eq_false e1; have c2 : decide (v = 2) = false := decide_eq_false e2; have c3 : decide (v = 3) = false := decide_eq_false e3; have c4 : decide (v = 4) = false := decide_eq_false e4; have c5 : decide (v = 5) = false := decide_eq_false e5
  have d6 : (v == 6) = false := beq_eq_false_iff_ne.2 e6; have c6 : decide (v = 6) = false := decide_eq_false e6
  have HL := Aside0.mk (show binV v a b = bitI (a != 0 || b != 0) by unfold binV; rw [if_neg e0, if_neg e1, if_neg e2, if_neg e3, if_neg e4, if_neg e5, if_neg e6])
  clear e0 e1 e2 e3 e4 e5 e6
  have hd : (a == 0) = true := by simpa using hx
  have hd' : decide (a = 0) = true := by simpa using hx
  rw [hx] at HL
  go_enter Tryz.func95, Tryz.ntmps95
  go_wp2_with (go_at_call 55; refine (spec_bit _ _).mono ?_; rintro e w' ⟨rfl, rfl⟩)
  go_ret
  exact ⟨by rw [HL.out]; rfl, rfl⟩
theorem spec_binVal_or_true (v a b : Int) (hv : v ≠ 0 ∧ v ≠ 1 ∧ v ≠ 2 ∧ v ≠ 3 ∧ v ≠ 4 ∧ v ≠ 5 ∧ v ≠ 6) (hx : (a != 0) = true) : Calls Tryz.prog 95 #[.int .i64 v, .int .i64 a, .int .i64 b] w fun e w' => e = .returned (.int .i64 (binV v a b)) ∧ w' = w := by
  obtain ⟨e0, e1, e2, e3, e4, e5, e6⟩ := hv
  have d0 : (v == 0) = false := beq_eq_false_iff_ne.2 e0; have d1 : (v == 1) = false := beq_eq_false_iff_ne.2 e1; have d2 : (v == 2) = false := beq_eq_false_iff_ne.2 e2; have d3 : (v == 3) = false := beq_eq_false_iff_ne.2 e3; have d4 : (v == 4) = false := beq_eq_false_iff_ne.2 e4; have d5 : (v == 5) = false := beq_eq_false_iff_ne.2 e5
  have c0 : decide (v = 0) = false := decide_eq_false e0; have c1 : decide (v = 1) = false := decide_eq_false e1; have c2 : decide (v = 2) = false := decide_eq_false e2; have c3 : decide (v = 3) = false := decide_eq_false e3; have c4 : decide (v = 4) = false := decide_eq_false e4; have c5 : decide (v = 5) = false := decide_eq_false e5
  have d6 : (v == 6) = false := beq_eq_false_iff_ne.2 e6; have c6 : decide (v = 6) = false := decide_eq_false e6
  have HL := Aside0.mk (show binV v a b = bitI (a != 0 || b != 0) by unfold binV; rw [if_neg e0, if_neg e1, if_neg e2, if_neg e3, if_neg e4, if_neg e5, if_neg e6])
  clear e0 e1 e2 e3 e4 e5 e6
  have hd : (a == 0) = false := by simpa using hx
  have hd' : decide (a = 0) = false := by simpa using hx
  rw [hx] at HL
  go_enter Tryz.func95, Tryz.ntmps95
  go_wp2_with (go_at_call 55; refine (spec_bit _ _).mono ?_; rintro e w' ⟨rfl, rfl⟩)
  go_ret
  exact ⟨by rw [HL.out]; rfl, rfl⟩
theorem spec_binVal (v a b : Int) (ha : -1000000000 ≤ a ∧ a ≤ 1000000000) (hb : -1000000000 ≤ b ∧ b ≤ 1000000000) : Calls Tryz.prog 95 #[.int .i64 v, .int .i64 a, .int .i64 b] w fun e w' => e = .returned (.int .i64 (binV v a b)) ∧ w' = w := by
  by_cases e0 : v = 0
  · subst e0; exact spec_binVal0 w a b ha hb
  by_cases e1 : v = 1
  · subst e1; exact spec_binVal1 w a b ha hb
  by_cases e2 : v = 2
  · subst e2; exact spec_binVal2 w a b ha hb
  by_cases e3 : v = 3
  · subst e3; exact spec_binVal3 w a b ha hb
  by_cases e4 : v = 4
  · subst e4; exact spec_binVal4 w a b ha hb
  by_cases e5 : v = 5
  · subst e5; exact spec_binVal5 w a b ha hb
  by_cases e6 : v = 6
  · cases hx : (a != 0) with
    | false => exact spec_binVal_and_false w v a b ⟨e0, e1, e2, e3, e4, e5, e6⟩ hx
    | true => exact spec_binVal_and_true w v a b ⟨e0, e1, e2, e3, e4, e5, e6⟩ hx
  · cases hx : (a != 0) with
    | false => exact spec_binVal_or_false w v a b ⟨e0, e1, e2, e3, e4, e5, e6⟩ hx
    | true => exact spec_binVal_or_true w v a b ⟨e0, e1, e2, e3, e4, e5, e6⟩ hx
end
end Go.Proofs.YtlhpbpkefkabgaaGreat.L1
