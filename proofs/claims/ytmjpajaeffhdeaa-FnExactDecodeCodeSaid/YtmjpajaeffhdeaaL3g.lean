/- The law FnExactValidCode: what came in is opened, and the law's own walk. -/
import Derived.Test.YtmjpajaeffhdeaaL3f
import Derived.Test.YtmjpajaeffhdeaaO0
namespace Go.Proofs.Ytmjpajaeffhdeaa.L1
open Go.RowKit Go.Proofs.YtmjpajaeffhdeaaW.PrintWords Go.Proofs.Ytmjpajaeffhdeaa.B
set_option linter.unusedVariables false
set_option linter.unusedSimpArgs false
attribute [local go_sem] mk_cell mk_frozen
section
variable {H : Type} {enc : TypeId × Value → H} {w : World} {base : Nat} {spare : Nat → Bool} {held : Bool}
theorem open_agg {P : Program} {r : Reach} {b0 : Nat} {t : TypeId} {fs : Array Field} {v : Value} {d : DataW H} {p : List MemPlace} (hs : P.underlying t = some (.struct fs)) (hone : Deep.oneCellFields P fs = true) (hC : P.cellsOf t = fs.size)
    (hv : Value.okWide P w r b0 t v) (h : DataW.Trod enc P w base spare held t v d p) :
    ∃ cs : Array Value, v = .agg cs ∧ cs.size = fs.size ∧ ∀ (i : Nat) (f : Field), fs[i]? = some f → ∃ u n y, cs[i]? = some u ∧ DataW.trod enc P w base spare held n f.type [u] = some y := by
  obtain ⟨cs, rfl, hsz⟩ := Go.WideShapes.okWide_struct hs hv
  obtain ⟨fuel, hf⟩ := h
  obtain ⟨xs, n, _, _, _, hl, hx⟩ := DataW.trod_struct hs hf
  refine ⟨cs, rfl, hsz.trans hC, fun i f hif => ?_⟩
  have hi : i < fs.size := by
    rcases Nat.lt_or_ge i fs.size with h | h
    · exact h
    · rw [Array.getElem?_eq_none h] at hif; cases hif
  have hic : i < cs.size := by omega
  obtain ⟨o, k⟩ := Deep.hone_of hone i f hif
  have h1 := hx i f hif
  rw [List.getElem?_eq_getElem (by omega)] at h1
  refine ⟨cs[i], n, xs[i], by simp [hic], ?_⟩
  have e : ((Value.agg cs).cells.toList.drop f.offset).take (P.cellsOf f.type) = [cs[i]] := by
    rw [o, k]
    show (cs.toList.drop i).take 1 = _
    rw [List.drop_eq_getElem_cons (by simpa using hic)]
    simp
  rw [e] at h1
  exact h1
theorem five {cs : Array Value} (h : cs.size = 5) : ∃ v0 v1 v2 v3 v4, cs = #[v0, v1, v2, v3, v4] := by
  obtain ⟨l⟩ := cs
  match l, h with
  | [a, b, c, d, e], _ => exact ⟨a, b, c, d, e, rfl⟩
theorem open_ins (n : Nat) (cs : List Value) (x : DataW H × List MemPlace) (h : DataW.trod enc Try.prog w base spare held n 135 cs = some x) : ∃ y : Ins, kIns.K w y cs := by
  obtain ⟨zs, hl, rfl⟩ := Open.flat_ints 3 _ 4 n cs x (by kernel_rfl) h
  match zs, hl with
  | [a0, a1, a2, a3], _ => exact ⟨⟨a0, a1, a2, a3⟩, rfl⟩
set_option maxRecDepth 100000 in
/-- Code that came in, by value. -/
theorem open_code {r : Reach} {b0 : Nat} {v : Value} {d : DataW H} {p : List MemPlace} (hv : Value.okWide Try.prog w r b0 27 v) (h : DataW.Trod enc Try.prog w base spare held 27 v d p) : ∃ x, ReadCode w v x := by
  obtain ⟨cs, rfl, hsz, hf⟩ := open_agg (Try.underlying27) (by kernel_rfl) (by kernel_rfl) hv h
  obtain ⟨v0, v1, v2, v3, v4, rfl⟩ := five hsz
  obtain ⟨u0, n0, y0, e0, g0⟩ := hf 0 _ rfl
  obtain ⟨u1, n1, y1, e1, g1⟩ := hf 1 _ rfl
  obtain ⟨u2, n2, y2, e2, h0⟩ := hf 2 _ rfl
  obtain ⟨u3, n3, y3, e3, h1⟩ := hf 3 _ rfl
  obtain ⟨u4, n4, y4, e4, h2⟩ := hf 4 _ rfl
  simp only [List.getElem?_toArray, List.getElem?_cons_zero, List.getElem?_cons_succ, Option.some.injEq] at e0 e1 e2 e3 e4
  subst e0 e1 e2 e3 e4
  obtain ⟨z0, f0, _, _⟩ := DataW.trod_int (Try.underlying2) g0
  obtain ⟨z1, f1, _, _⟩ := DataW.trod_int (Try.underlying2) g1
  obtain ⟨A0, c0, vs, e0, r0⟩ := Open.open_C kIns (Try.underlying25) (by kernel_rfl) open_ins h0
  obtain ⟨A1, c1, qs, e1, r1⟩ := Open.open_C kIns (Try.underlying25) (by kernel_rfl) open_ins h1
  obtain ⟨A2, c2, rs, e2, r2⟩ := Open.open_C kIns (Try.underlying25) (by kernel_rfl) open_ins h2
  simp only [List.cons.injEq, and_true] at f0 f1 e0 e1 e2
  subst f0 f1 e0 e1 e2
  exact ⟨⟨z0, z1, vs, qs, rs⟩, A0, c0, A1, c1, A2, c2, rfl, r0, r1, r2⟩
end
theorem bel10 {w W : World} {a0 a1 a2 a3 a4 a5 a6 a7 a8 a9 : Addr} {v0 v1 v2 v3 v4 v5 v6 v7 v8 v9 : Value} (h : W.cell? a0 = some v0 ∧ W.cell? a1 = some v1 ∧ W.cell? a2 = some v2 ∧ W.cell? a3 = some v3 ∧ W.cell? a4 = some v4 ∧ W.cell? a5 = some v5 ∧ W.cell? a6 = some v6 ∧ W.cell? a7 = some v7 ∧ W.cell? a8 = some v8 ∧ W.cell? a9 = some v9 ∧ Below w.heap.size w W) : Below w.heap.size w W := h.2.2.2.2.2.2.2.2.2.2
section
variable (w : World)
set_option maxRecDepth 100000 in
set_option maxHeartbeats 1000000 in
theorem law_validCode (v : Value) (x : Code) (hr : ReadCode w v x) : Calls Try.prog 6 #[v] w fun e w' => e = .returned (.bool true) ∧ Below w.heap.size w w' := by
  have hr' := hr
  obtain ⟨A0, c0, A1, c1, A2, c2, rfl, r0, r1, r2⟩ := hr'
  clear r0 r1 r2
  have HR := Aside0.mk hr; clear hr
  have HA := Aside0.mk (al_new w (.cells #[.int .i64 x.regs, .int .i64 x.slots, .slice A0 x.b0.length c0, .slice A1 x.b1.length c1, .slice A2 x.b2.length c2] 27))
  have HB := Aside0.mk (below_alloc (Below.refl w.heap.size w) (.cells #[.int .i64 x.regs, .int .i64 x.slots, .slice A0 x.b0.length c0, .slice A1 x.b1.length c1, .slice A2 x.b2.length c2] 27))
  go_enter Try.func6, Try.ntmps6
  go_wp2_with fail
  go_at_call 18
  refine (szCode _ _ x 1048576 (by omega) (by omega) (HR.out.below HB.out)).mono ?_
  rintro e w2 ⟨⟨r, rfl, hr⟩, hb⟩
  have HB1 := Aside0.mk (bel_call HB.out hb); have HA1 := Aside0.mk (blk_below HA.out hb); clear hb HA HB
  rcases hr with rfl | ⟨hr0, hr1, hs⟩
  · go_wp2
    go_ret
    exact ⟨rfl, HB1.out⟩
  have HS := Aside0.mk hs; clear hs
  have hd : decide (r < 0) = false := by simp; omega
  obtain ⟨b1, b2⟩ := lay (Below.refl _ _) HA1.out
  go_wp2_with fail
  clear b1 b2
  go_at_call 20
  refine (toCode _ _ x (HR.out.below HB1.out) HS.out).mono ?_
  rintro e w3 ⟨u, rfl, ho, hb⟩
  have HB2 := Aside0.mk (bel_call HB1.out hb); have HA2 := Aside0.mk (blk_below HA1.out hb); clear hb HA1 HB1
  have HX := Aside0.mk ho.read; clear ho
  go_wp2_with fail
  go_at_call 19
  refine (spec_ValidCode _ _ x HX.out).mono ?_
  rintro e w4 ⟨rfl, hb⟩
  have HB3 := Aside0.mk (bel_call HB2.out hb); have HA3 := Aside0.mk (blk_below HA2.out hb); clear hb HA2 HB2 HX
  obtain ⟨b1, b2⟩ := lay (Below.refl _ _) HA3.out
  go_wp2_with fail
  clear b1 b2
  go_at_call 20
  refine (toCode _ _ x (HR.out.below HB3.out) HS.out).mono ?_
  rintro e w5 ⟨u5, rfl, ho, hb⟩
  have HB4 := Aside0.mk (bel_call HB3.out hb); have HA4 := Aside0.mk (blk_below HA3.out hb); clear hb HA3 HB3
  obtain ⟨B0, d0, B1, d1, B2, d2, rfl, t0, t1, t2⟩ := ho.read
  clear ho
  have HX := Aside0.mk (show ReadCode w5 (.agg #[.int .i64 x.regs, .int .i64 x.slots, .slice B0 x.b0.length d0, .slice B1 x.b1.length d1, .slice B2 x.b2.length d2]) x from ⟨_, _, _, _, _, _, rfl, t0, t1, t2⟩); clear t0 t1 t2
  go_wp2_with fail
  have HB5 := Aside0.mk (bel_box HB4.out (.cells #[.int .i64 x.regs, .int .i64 x.slots, .slice B0 x.b0.length d0, .slice B1 x.b1.length d1, .slice B2 x.b2.length d2] 32))
  have HA5 := Aside0.mk (blk_box HA4.out (.cells #[.int .i64 x.regs, .int .i64 x.slots, .slice B0 x.b0.length d0, .slice B1 x.b1.length d1, .slice B2 x.b2.length d2] 32))
  have HV5 := Aside0.mk (al_new w5 (.cells #[.int .i64 x.regs, .int .i64 x.slots, .slice B0 x.b0.length d0, .slice B1 x.b1.length d1, .slice B2 x.b2.length d2] 32))
  have HX5 := Aside0.mk (HX.out.below (below_alloc (Below.refl w5.heap.size w5) (.cells #[.int .i64 x.regs, .int .i64 x.slots, .slice B0 x.b0.length d0, .slice B1 x.b1.length d1, .slice B2 x.b2.length d2] 32)))
  clear HA4 HB4 HX
  go_at_call 21
  refine (impl_ValidCode _ _ x HX5.out).mono ?_
  rintro e w6 ⟨rfl, hb⟩
  have HB6 := Aside0.mk (bel_call HB5.out hb); have HA6 := Aside0.mk (blk_below HA5.out hb); have HV6 := Aside0.mk (blk_below HV5.out hb); have HX6 := Aside0.mk (HX5.out.below hb); clear hb HA5 HB5 HX5 HV5
  go_wp2_with fail
  go_region_held3 (fun w' => w'.cell? ⟨w.heap.size, 0, none⟩ = some (.int .i64 x.regs) ∧ w'.cell? ⟨w.heap.size, 1, none⟩ = some (.int .i64 x.slots) ∧ w'.cell? ⟨w.heap.size, 2, none⟩ = some (.slice A0 x.b0.length c0) ∧ w'.cell? ⟨w.heap.size, 3, none⟩ = some (.slice A1 x.b1.length c1) ∧ w'.cell? ⟨w.heap.size, 4, none⟩ = some (.slice A2 x.b2.length c2) ∧ w'.cell? ⟨w5.heap.size, 0, none⟩ = some (.int .i64 x.regs) ∧ w'.cell? ⟨w5.heap.size, 1, none⟩ = some (.int .i64 x.slots) ∧ w'.cell? ⟨w5.heap.size, 2, none⟩ = some (.slice B0 x.b0.length d0) ∧ w'.cell? ⟨w5.heap.size, 3, none⟩ = some (.slice B1 x.b1.length d1) ∧ w'.cell? ⟨w5.heap.size, 4, none⟩ = some (.slice B2 x.b2.length d2) ∧ Below w6.heap.size w6 w')
    (first | exact ⟨blk_cell HA6.out 0, blk_cell HA6.out 1, blk_cell HA6.out 2, blk_cell HA6.out 3, blk_cell HA6.out 4, blk_cell HV6.out 0, blk_cell HV6.out 1, blk_cell HV6.out 2, blk_cell HV6.out 3, blk_cell HV6.out 4, below_drew (Below.refl _ _)⟩ | exact keepC10 (by assumption) hb2 | exact keepC10 (by assumption) hb3)
    (first
      | (go_at_call 20; refine Calls.mono (toCode _ _ x ?_ HS.out) ?_; exact HR.out.below (bel_call HB6.out (bel10 (by assumption))); rintro e w7 ⟨u7, rfl, ho, hb2⟩; replace ho := ho.read)
      | (go_at_call 22; refine (eqCode _ _ _ x (HX6.out.below (bel10 (by assumption))) ho HS.out).mono ?_; rintro e w8 ⟨rfl, hb3⟩))
  rename_i hH
  have HB7 := Aside0.mk (bel_call HB6.out hH.2.2.2.2.2.2.2.2.2.2); clear hH
  go_wp2
  go_ret
  exact ⟨rfl, HB7.out⟩
end
end Go.Proofs.Ytmjpajaeffhdeaa.L1
