/- The law FnExactValidInst: what came in is opened, and the law's own walk. -/
import Derived.Test.YteefopaoodfapaaDoorL1g
import Derived.Test.YteefopaoodfapaaDoorO0
namespace Go.Proofs.YteefopaoodfapaaDoor.L1
open Go.RowKit Go.Proofs.YteefopaoodfapaaDoorW.PrintWords Go.Proofs.YteefopaoodfapaaDoor.B
set_option linter.unusedVariables false
set_option linter.unusedSimpArgs false
attribute [local go_sem] mk_cell mk_frozen
section
variable {H : Type} {enc : TypeId × Value → H} {w : World} {base : Nat} {spare : Nat → Bool} {held : Bool}
theorem open_veh (n : Nat) (cs : List Value) (x : DataW H × List MemPlace) (h : DataW.trod enc Tryd.prog w base spare held n 80 cs = some x) : ∃ y : Veh, kVeh.K w y cs := by
  obtain ⟨zs, hl, rfl⟩ := Open.flat_ints 3 _ 7 n cs x (by kernel_rfl) h
  match zs, hl with
  | [a0, a1, a2, a3, a4, a5, a6], _ => exact ⟨⟨a0, a1, ⟨a2, a3, a4, a5, a6⟩⟩, rfl⟩
theorem open_req (n : Nat) (cs : List Value) (x : DataW H × List MemPlace) (h : DataW.trod enc Tryd.prog w base spare held n 83 cs = some x) : ∃ y : Req, kReq.K w y cs := by
  obtain ⟨zs, hl, rfl⟩ := Open.flat_ints 3 _ 12 n cs x (by kernel_rfl) h
  match zs, hl with
  | [a0, a1, a2, a3, a4, a5, a6, a7, a8, a9, a10, a11], _ => exact ⟨⟨a0, a1, ⟨a2, a3, a4, a5, a6⟩, ⟨a7, a8, a9, a10, a11⟩⟩, rfl⟩
theorem open_road (n : Nat) (cs : List Value) (x : DataW H × List MemPlace) (h : DataW.trod enc Tryd.prog w base spare held n 85 cs = some x) : ∃ y : Road, kRoad.K w y cs := by
  obtain ⟨zs, hl, rfl⟩ := Open.flat_ints 3 _ 3 n cs x (by kernel_rfl) h
  match zs, hl with
  | [a0, a1, a2], _ => exact ⟨⟨a0, a1, a2⟩, rfl⟩
set_option maxRecDepth 100000 in
/-- An instance that came in, by value. -/
theorem open_inst {r : Reach} {b0 : Nat} {v : Value} {d : DataW H} {p : List MemPlace} (hv : Value.okWide Tryd.prog w r b0 26 v) (h : DataW.Trod enc Tryd.prog w base spare held 26 v d p) : ∃ x, ReadInst w v x := by
  obtain ⟨v0, v1, v2, y0, y1, y2, n, rfl, rfl, rfl, h0, h1, h2⟩ := Joins.open_agg3 (Tryd.underlying26) (by kernel_rfl) (by kernel_rfl) hv h
  obtain ⟨A0, c0, vs, e0, r0⟩ := Open.open_C kVeh (Tryd.underlying22) (by kernel_rfl) open_veh h0
  obtain ⟨A1, c1, qs, e1, r1⟩ := Open.open_C kReq (Tryd.underlying23) (by kernel_rfl) open_req h1
  obtain ⟨A2, c2, rs, e2, r2⟩ := Open.open_C kRoad (Tryd.underlying24) (by kernel_rfl) open_road h2
  simp only [List.cons.injEq, and_true] at e0 e1 e2
  subst e0 e1 e2
  exact ⟨⟨vs, qs, rs⟩, A0, c0, A1, c1, A2, c2, rfl, r0, r1, r2⟩
end
theorem bel6 {w W : World} {a0 a1 a2 a3 a4 a5 : Addr} {v0 v1 v2 v3 v4 v5 : Value} (h : W.cell? a0 = some v0 ∧ W.cell? a1 = some v1 ∧ W.cell? a2 = some v2 ∧ W.cell? a3 = some v3 ∧ W.cell? a4 = some v4 ∧ W.cell? a5 = some v5 ∧ Below w.heap.size w W) : Below w.heap.size w W := h.2.2.2.2.2.2
section
variable (w : World)
end
end Go.Proofs.YteefopaoodfapaaDoor.L1
