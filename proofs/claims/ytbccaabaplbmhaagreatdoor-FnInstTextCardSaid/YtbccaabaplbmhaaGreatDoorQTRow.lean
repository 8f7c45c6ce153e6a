/- The row FnInstText: the walk laid under the given statement, and its tied card (form: the guide's toy over a laid table; errorType after the toy over errors.As). -/
import Derived.Test.YtbccaabaplbmhaaGreatDoorCards
import Derived.Test.YtbccaabaplbmhaaGreatDoorTie
import Derived.Test.YtbccaabaplbmhaaGreatDoorQT21
import Derived.WalkKit
import Derived.ProofKit
import Derived.OpenShut
import Derived.ChangeOld
import Derived.Below
import Derived.SizedLaws
import Derived.Carry
import Derived.OpenVars
import Derived.LaidHandle
import Derived.Stop.LaidErr
import Derived.Shelf.Vars
import Derived.Deep.DeepHandedRow
import Derived.Lib.LaidTab
namespace Go.Proofs.YtbccaabaplbmhaaGreatDoor.fnInstText
open Go.ChangeShapes Go.WideShapes Go.ChangeAt Go.RowKit
set_option linter.unusedVariables false
theorem own : ownKnob Tryz.prog.godebug = none := by kernel_rfl
theorem laidOut : laidOutB Tryz.prog = true := by kernel_rfl
theorem gKinds : Tryz.prog.globalNamed "loop.example/s0023/impl.lineKinds" = some 0 := by kernel_rfl
theorem gKindsType : (Tryz.prog.globals[0]?).map (·.type) = some 99 := by kernel_rfl
theorem gEt : Tryz.prog.globalNamed "errors.errorType" = some 1 := by kernel_rfl
theorem gSyn : Tryz.prog.globalNamed "strconv.ErrSyntax" = some 4 := by kernel_rfl
theorem gSynType : (Tryz.prog.globals[4]?).map (·.type) = some 67 := by kernel_rfl
theorem gRng : Tryz.prog.globalNamed "strconv.ErrRange" = some 5 := by kernel_rfl
theorem gRngType : (Tryz.prog.globals[5]?).map (·.type) = some 67 := by kernel_rfl
theorem gTab : Tryz.prog.globalNamed "internal/strconv.uint64pow10" = some 2 := by kernel_rfl
theorem gTabType : (Tryz.prog.globals[2]?).map (·.type) = some 148 := by kernel_rfl
theorem cellsT : Tryz.prog.cellsOf 148 = 20 := by kernel_rfl
theorem cellsE : Tryz.prog.cellsOf 138 = 1 := by kernel_rfl
theorem cellsK : Tryz.prog.cellsOf 98 = 2 := by kernel_rfl
theorem cellsS : Tryz.prog.cellsOf 9 = 1 := by kernel_rfl
theorem cellsI : Tryz.prog.cellsOf 3 = 1 := by kernel_rfl
theorem cellsES : Tryz.prog.cellsOf 179 = 1 := by kernel_rfl
theorem star : "*" ++ "errors.errorString" = "*errors.errorString" := by decide
theorem rowES (u : TypeId) (h : Tryz.prog.typeName? 3 u = some "*errors.errorString") : u = 177 :=
  typeName_ptr_named (nm := "errors.errorString") (by rw [star]; kernel_rfl) (by kernel_rfl) (by decide) u (by rw [star]; exact h)
/-- One entry of the table of the lines' kinds. -/
theorem pair_at {W : World} {cs : List Value} {i m : Nat} {held : Bool} {sp : Nat → Bool} {str : List UInt8} {z : Int} {p : List MemPlace}
    (h : DataW.trod (fun _ => ()) Tryz.prog W 0 sp held m 98 ((cs.drop (i * 2)).take 2) = some (.agg [.lit (.string str), .lit (.int .i64 z)], p)) : cs[i * 2]? = some (.string ⟨str.toArray⟩) ∧ cs[i * 2 + 1]? = some (.int .i64 z) := by
  obtain ⟨y0, y1, n, e, hl, h0, h1⟩ := trod_struct2 Tryz.underlying98 h
  obtain ⟨s, hs, hy, _⟩ := DataW.trod_string Tryz.underlying9 h0
  obtain ⟨k, hk, hy1, _⟩ := DataW.trod_int (k := .i64) Tryz.underlying3 h1
  subst hy
  subst hy1
  simp only [Prod.mk.injEq, DataW.agg.injEq, List.cons.injEq, DataW.lit.injEq, Lit.string.injEq, Lit.int.injEq, true_and, and_true] at e
  obtain ⟨⟨e0, e1⟩, _⟩ := e
  subst e1
  simp only [cellsS, cellsI] at hs hk
  have a0 := congrArg (·[0]?) hs
  have a1 := congrArg (·[0]?) hk
  simp only [List.getElem?_take, List.getElem?_drop, List.getElem?_cons_zero] at a0 a1
  refine ⟨?_, ?_⟩
  · have : s = ⟨str.toArray⟩ := by rw [e0]
    rw [← this]
    simpa using a0
  · simpa using a1
set_option maxRecDepth 100000 in
theorem kinds {W : World} {r : List (String × DataW Unit)} (h : laidMet Tryz.prog (("loop.example/s0023/impl.lineKinds", Rows.laid_loop_example_s0023_impl_lineKinds) :: r) W) :
    W.cell? ⟨0, 0, none⟩ = some (.string ⟨#[118, 101, 104, 105, 99, 108, 101]⟩) ∧ W.cell? ⟨0, 1, none⟩ = some (.int .i64 8) ∧ W.cell? ⟨0, 2, none⟩ = some (.string ⟨#[114, 101, 113, 117, 101, 115, 116]⟩) ∧ W.cell? ⟨0, 3, none⟩ = some (.int .i64 13) ∧ W.cell? ⟨0, 4, none⟩ = some (.string ⟨#[114, 111, 97, 100]⟩) ∧ W.cell? ⟨0, 5, none⟩ = some (.int .i64 4) := by
  obtain ⟨ps, ⟨g0, t0, cs, f0, p0, q0, hg0, ht0, hv0, hd0, _, e0⟩, _, _⟩ := h
  obtain rfl := Option.some.inj (gKinds.symm.trans hg0)
  obtain rfl := Option.some.inj (gKindsType.symm.trans ht0)
  obtain ⟨xs, m, _, hx, hl, hn, hf⟩ := DataW.trod_array Tryz.underlying99 hd0
  have hx1 := congrArg Prod.fst hx
  simp only [Rows.laid_loop_example_s0023_impl_lineKinds, DataW.agg.injEq] at hx1
  match xs, hn, hx1, hf with
  | [(a0, b0), (a1, b1), (a2, b2)], _, hx1, hf =>
    simp only [List.map_cons, List.map_nil, List.cons.injEq, and_true] at hx1
    obtain ⟨rfl, rfl, rfl⟩ := hx1
    have k0 := hf 0 (by omega)
    have k1 := hf 1 (by omega)
    have k2 := hf 2 (by omega)
    rw [cellsK] at k0 k1 k2
    have c0 := pair_at k0
    have c1 := pair_at k1
    have c2 := pair_at k2
    have v := World.var?_cell hg0 hv0
    simp only [Array.getElem?_toList] at c0 c1 c2
    exact ⟨(v 0).trans c0.1, (v 1).trans c0.2, (v 2).trans c1.1, (v 3).trans c1.2, (v 4).trans c2.1, (v 5).trans c2.2⟩
theorem rtU : (Tryz.prog.cutTypes.find? (·.1 == "internal/reflectlite.rtype")).map (·.2) = some 121 := by kernel_rfl
set_option maxRecDepth 100000 in
theorem oneRow : ((List.range Tryz.prog.types.size).filter fun t => Tryz.prog.rowNamed t [101, 114, 114, 111, 114]) = [67] := by kernel_rfl
set_option maxRecDepth 100000 in
theorem handle {W : World} (h : handlesMet Tryz.prog [("errors.errorType", Rows.laid_errors_errorType)] W) : W.cell? ⟨1, 0, none⟩ = some (.iface 121 (.agg #[.pointer (some ⟨10, 67, none⟩)])) := by
  obtain ⟨name, u, ty, e1, e2, e3, e4, e5⟩ := h _ (List.mem_singleton.2 rfl)
  have en : name = [101, 114, 114, 111, 114] := (Option.some.inj e1).symm
  subst en
  obtain rfl := Option.some.inj (rtU.symm.trans e2)
  have hm : ty ∈ (List.range Tryz.prog.types.size).filter fun t => Tryz.prog.rowNamed t [101, 114, 114, 111, 114] := List.mem_filter.2 ⟨List.mem_range.2 e3, e4⟩
  rw [oneRow] at hm
  obtain rfl := List.mem_singleton.1 hm
  have hh : typeHandle Tryz.prog 67 = .pointer (some ⟨10, 67, none⟩) := by kernel_rfl
  rw [hh] at e5
  simpa using World.var?_cell gEt e5 0
set_option maxRecDepth 100000 in
/-- What the row's list and the world's shape give of the variables. -/
theorem globals {W : World} (h : laidMetH Tryz.prog Rows.fnInstTextRow.laid W) (hs : W.ShapedOpen Tryz.prog) : L1.Gl W ∧ W.cell? ⟨1, 0, none⟩ = some (.iface 121 (.agg #[.pointer (some ⟨10, 67, none⟩)])) := by
  have h' : laidMet Tryz.prog [("math/bits.deBruijn32tab", Rows.laid_math_bits_deBruijn32tab), ("math/bits.deBruijn64tab", Rows.laid_math_bits_deBruijn64tab), ("internal/strconv.uint64pow10", Rows.laid_internal_strconv_uint64pow10), ("unicode/utf8.acceptRanges", Rows.laid_unicode_utf8_acceptRanges), ("strconv.ErrRange", Rows.laid_strconv_ErrRange), ("strconv.ErrSyntax", Rows.laid_strconv_ErrSyntax), ("loop.example/s0023/impl.lineKinds", Rows.laid_loop_example_s0023_impl_lineKinds), ("unicode/utf8.first", Rows.laid_unicode_utf8_first)] W ∧ handlesMet Tryz.prog [("errors.errorType", Rows.laid_errors_errorType)] W := h
  obtain ⟨hd, hh⟩ := h'
  have ht := hd.tail.tail
  have hr := ht.tail.tail
  have hy := hr.tail
  have hk := hy.tail
  have hT : Lib.TabIs Tryz.prog W L1.tabName .u64 Lib.pow10Tab := Lib.tabIs_of_head gTab gTabType Tryz.underlying148 Tryz.underlying138 cellsE cellsT ht
  obtain ⟨a1, _, v1, _⟩ := laid_sentinel hr gRng gRngType Tryz.underlying67 rowES Tryz.underlying177 Tryz.underlying179 rfl rfl Tryz.underlying9 cellsES cellsS
  obtain ⟨a2, _, v2, _⟩ := laid_sentinel hy gSyn gSynType Tryz.underlying67 rowES Tryz.underlying177 Tryz.underlying179 rfl rfl Tryz.underlying9 cellsES cellsS
  refine ⟨⟨?_, ?_, ?_, Lib.tabBelow_of_tabIs hT, kinds hk⟩, handle hh⟩
  · exact cell_of_shapedOpen_int (zero := #[.int .i64 0]) (t := 3) hs (of_decide_eq_true (by kernel_rfl)) (by kernel_rfl) rfl (by kernel_rfl) (by kernel_rfl) Tryz.underlying3
  · exact ⟨_, (World.var?_cell gSyn v2 0).trans rfl, .inr ⟨_, _, rfl⟩⟩
  · exact ⟨_, (World.var?_cell gRng v1 0).trans rfl, .inr ⟨_, _, rfl⟩⟩
set_option maxRecDepth 100000 in
theorem contract (H : Type) (enc : TypeId × Value → H) (W : World) (base : Nat) (args : Array Value) (ds gs : List (DataW H)) (before : List MemPlace)
    (hval : ∀ (j : Nat) t v, Tryz.f3.params[j]? = some t → args[j]? = some v → Value.okWide Tryz.prog W .any base t v)
    (hW : DataW.Whole enc Tryz.prog Tryz.f3.params.toList Rows.fnInstTextSpec.vars false W args.toList ds gs before) (hL : laidMetH Tryz.prog Rows.fnInstTextRow.laid W) (hS : W.ShapedOpen Tryz.prog) :
    Calls Tryz.prog 3 args W fun e W' => ∃ v, e = .returned v ∧ Rows.fnInstTextSpec.post enc Tryz.prog Tryz.f3 false true false false W args v W' := by
  have hW' := hW
  obtain ⟨p, q, hA0, hV, rfl, hfz, hnd⟩ := hW
  have hA : DataW.TrodAll enc Tryz.prog W 0 (fun _ => true) true Tryz.f3.params.toList args.toList ds p := hA0
  rw [Tryz.params3] at hA hval
  obtain ⟨v0, vs0, d0, ds0, p0, q0, hargs, rfl, rfl, h0, r0⟩ := trodAll_cons hA
  obtain ⟨rfl, rfl, rfl⟩ := trodAll_nil r0
  obtain rfl : args = #[v0] := by cases args; simp_all
  have hV' : DataW.TrodVars enc Tryz.prog W (fun _ => true) ["loop.example/s0023/impl.lineKinds"] gs q := hV
  have hgs := trodVars_one hV'
  obtain ⟨gx, tx, cx, fx, d, px, rfl, _⟩ := hgs
  have k0 := h0
  have lt0 : ∀ x ∈ p0, x.block < W.heap.size := by obtain ⟨m, hm⟩ := k0; exact DataW.trod_lt m _ _ _ hm
  obtain ⟨A0, c0, xs0, rfl, hC, hB⟩ := L1.open_bytes (hval 0 22 v0 rfl rfl) h0
  obtain ⟨hG, hE⟩ := globals hL hS
  clear hA0
  refine (L1.law_instText W A0 c0 xs0 hC hG hE).mono fun e W' ⟨he, bel⟩ => ?_
  subst he
  exact ⟨_, rfl, _, _, _, [], _, _, hW', trodAll_mk1 (shut_bool Tryz.underlying4 _), (trodAll_cons_mk (Below.trod laidOut (by kernel_rfl) (of_decide_eq_true (by kernel_rfl)) k0 bel lt0) trodAll_mk0), Below.trodVars laidOut bel (by kernel_rfl) hV', bel.frame _, fun h => by cases h⟩
/-- A world for the witness: the settled one, the variables laid. -/
def setTab (w : World) (g : Nat) (cs : Array Value) : World :=
  { w with heap := w.heap.modify g fun
      | .cells _ t frozen => .cells cs t frozen
      | o => o }
def cells0 : DataW Unit → List Value
  | .lit (.int k n) => [.int k n]
  | .lit (.string s) => [.string ⟨s.toArray⟩]
  | _ => []
def cells1 : DataW Unit → List Value
  | .agg l => l.flatMap cells0
  | d => cells0 d
def cells2 : DataW Unit → List Value
  | .agg l => l.flatMap cells1
  | d => cells1 d
def textOf : DataW Unit → Value
  | .iface _ (.ptr (.agg [.lit (.string s)])) => .string ⟨s.toArray⟩
  | _ => default
noncomputable def low : Nat := (World.holding Tryz.prog default ⟨#[], #[], []⟩).heap.size
noncomputable def laidWorld (os : Os) : World :=
  setTab (setTab (setTab (setTab (setTab (setTab (setTab (setTab (setTab (World.holding Tryz.prog os ⟨#[.cells #[textOf Rows.laid_strconv_ErrSyntax] 179, .cells #[textOf Rows.laid_strconv_ErrRange] 179], #[], []⟩)
    0 (cells2 Rows.laid_loop_example_s0023_impl_lineKinds).toArray)
    1 #[.iface 121 (.agg #[.pointer (some ⟨10, 67, none⟩)])])
    4 #[.iface 177 (.pointer (some ⟨low, 0, none⟩))])
    5 #[.iface 177 (.pointer (some ⟨low + 1, 0, none⟩))])
    2 (cells1 Rows.laid_internal_strconv_uint64pow10).toArray)
    8 (cells1 Rows.laid_unicode_utf8_first).toArray)
    9 (cells2 Rows.laid_unicode_utf8_acceptRanges).toArray)
    6 (cells1 Rows.laid_math_bits_deBruijn32tab).toArray)
    7 (cells1 Rows.laid_math_bits_deBruijn64tab).toArray
def arg0 : Value := .slice none 0 0
theorem laid_met (os : Os) : laidMetH Tryz.prog Rows.fnInstTextRow.laid ((laidWorld os).forCall (fun _ _ => 0) ⟨#[], #[arg0], []⟩).memory :=
  laidMetH_of_parts (laidMet_of_run' 8 (by kernel_rfl) (by kernel_rfl)) (by kernel_rfl)
theorem reads (os : Os) {H : Type} (enc : TypeId × Value → H) : ∃ places, DataW.whole enc Tryz.prog ((laidWorld os).forCall (fun _ _ => 0) ⟨#[], #[arg0], []⟩).memory Tryz.f3.params.toList Rows.fnInstTextSpec.vars false #[arg0].toList 8 = some ([.nil], [Rows.laid_loop_example_s0023_impl_lineKinds], places) :=
  ⟨[.cell 0 0, .cell 0 1, .cell 0 2, .cell 0 3, .cell 0 4, .cell 0 5], by kernel_rfl⟩
set_option maxRecDepth 100000 in
theorem lifted (os : Os) (started : os.Started) (H : Type) (enc : TypeId × Value → H) (F : Stop.Interp) :
    ReturnsInHanded {} Tryz.checked os 3 .any ((OpenSpec.ofChange Rows.fnInstTextSpec).preRow enc Tryz.prog Tryz.f3 Rows.fnInstTextRow.domain false Rows.fnInstTextRow.laid) (((OpenSpec.ofChange Rows.fnInstTextSpec).at F).post enc Tryz.prog Tryz.f3 false true false false) := by
  obtain ⟨places, hx⟩ := reads os enc
  refine returnsInHanded_of_row (C := Tryz.checked) (s := OpenSpec.ofChange Rows.fnInstTextSpec) own started (by kernel_rfl) Tryz.func3
    (witness_row_at (enc := enc) (C := Tryz.checked) false (laidWorld os) #[arg0] rfl (by kernel_rfl) (by kernel_rfl) (by kernel_rfl)
      (OpenSpec.preRow_of_cond 8 hx (by kernel_rfl) (fun k hk => by cases hk) (by kernel_rfl) (laid_met os))) ?_
  intro W base args ds gs before hval hW _ _ _ hL hS _
  exact contract H enc W base args ds gs before hval hW hL hS
theorem said : Rows.FnInstTextSaid :=
  OpenClaim.holds_of_cond 3 Tryz.f3 rfl rfl rfl rfl rfl rfl rfl ⟨rfl, rfl, rfl, rfl, rfl⟩ rfl rfl rfl rfl rfl (by kernel_rfl) Tryz.func3 (by kernel_rfl)
    (of_decide_eq_true (by kernel_rfl)) (by unfold Func.isWrapper; first | (rw [if_pos (by decide +kernel)]; kernel_rfl) | (rw [if_neg (by decide +kernel)]; exact ⟨rfl, rfl⟩))
    (fun os started H enc _ F => by rw [OpenClaim.pre_eq_preRow]; exact lifted os started H enc F)
/-- What the card asks: no parameter wants a stand-in; the program's own looks are on. -/
theorem plain (f : FuncId) (fn : Func) (hf : Tryz.pinned.checked.prog.funcNamed Rows.fnInstTextRow.func = some f) (hfn : Tryz.pinned.checked.prog.funcs[f]? = some fn) :
    true = Tryz.pinned.checked.prog.looks [] ∧ ∀ (j : Nat) t, fn.params[j]? = some t → Tryz.pinned.checked.prog.wantsStandIn t = false := by
  obtain rfl : f = 3 := Option.some.inj ((show Tryz.prog.funcNamed Rows.fnInstTextRow.func = some 3 by kernel_rfl).symm.trans hf) |>.symm
  obtain rfl : fn = Tryz.f3 := (Option.some.inj (Tryz.func3.symm.trans hfn)).symm
  refine ⟨by kernel_rfl, fun j t ht => ?_⟩
  rw [Tryz.params3] at ht
  obtain rfl : t = 22 := by simpa using Array.mem_of_getElem? ht
  exact (show Tryz.prog.wantsStandIn 22 = false by kernel_rfl)
theorem card : Rows.FnInstTextCardSaid :=
  Claim7.holds_tied_plain_at .later [] _ _ _ _ said (fun _ h => by cases h) (by kernel_rfl) (fun _ h => by cases h) fnInstText_row_tie rfl ⟨rfl, rfl⟩ (by kernel_rfl) rfl plain (by kernel_rfl)
#print axioms card
end Go.Proofs.YtbccaabaplbmhaaGreatDoor.fnInstText
namespace Go.Proofs.YtbccaabaplbmhaaGreatDoor
/-- The card, under a short name, for the claim. -/
theorem fnInstText_holds : Rows.FnInstTextCardSaid := fnInstText.card
end Go.Proofs.YtbccaabaplbmhaaGreatDoor
