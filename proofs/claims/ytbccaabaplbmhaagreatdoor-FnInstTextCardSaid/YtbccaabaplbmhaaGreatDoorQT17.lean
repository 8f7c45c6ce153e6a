/- strings.Lines: its iterator, which keeps what is left in a variable of its own. A loop over the lines of a text: the rounds, the loop's record, the block of the deferred calls. errors.As at a target of the program's own error type (after the worked example of it, turned to this dump's numbers). errors.As finds the program's own error. A text, as the program reads it. A text, as the program reads it: the loop over its lines. -/
import Derived.Test.YtbccaabaplbmhaaGreatDoorQT9
import Derived.RangeFuncNested
import Derived.RangeFuncBound
import Derived.RangeFuncCalls
import Derived.RangeFuncLeaves
import Derived.Shelf.Abstract
import Derived.Shelf.RegionOpen
import Derived.WalkKit
import Derived.OwnWalkIn
import Derived.TacticsInMore
import Derived.LoopNIn
import Derived.LoopIn
import Derived.LaidEql
import Derived.Stop.Asserts
import Derived.RowKitTokens
import Derived.Test.YtbccaabaplbmhaaGreatDoorQT13
import Derived.Test.YtbccaabaplbmhaaGreatDoorQT14
import Derived.Test.YtbccaabaplbmhaaGreatDoorQT15
import Derived.Test.YtbccaabaplbmhaaGreatDoorQT16
namespace Go.Proofs.YtbccaabaplbmhaaGreatDoor.L1
open Go.RowKit Go.Proofs.YtbccaabaplbmhaaGreatDoorW.PrintWords Go.Proofs.YtbccaabaplbmhaaGreatDoor.B
set_option linter.unusedVariables false
set_option linter.unusedSimpArgs false
attribute [local go_sem] Oper.semAt_some
def headL (s : ByteArray) : ByteArray := if Lib.indexByte s.data.toList 10 = -1 then s else s.extract 0 ((Lib.indexByte s.data.toList 10).toNat + 1)
def tailL (s : ByteArray) : ByteArray := if Lib.indexByte s.data.toList 10 = -1 then ByteArray.empty else s.extract ((Lib.indexByte s.data.toList 10).toNat + 1) s.size
def SBox (W : World) (bx : Nat) (s : ByteArray) : Prop := W.heap[bx]? = some (.cells #[.string s] 9 (0, 0))
set_option maxRecDepth 100000 in
set_option maxHeartbeats 4000000 in
theorem lines_in (n : Nat) (hn : 2 ≤ n) (l bx : Nat) (J : Nat → ByteArray → World → Prop) (Jx : World → Prop)
    (hJ : ∀ k s W W', J k s W → Tch (fun k => k = bx) W W' → J k s W')
    (hY : ∀ k s W, J k s W → s.size ≠ 0 → SBox W bx (tailL s) → YieldAt Fence.wide (n - 1) Tryz.prog l #[.string (headL s)] W fun e W' => SBox W' bx (tailL s) ∧ ((e = .returned (.bool true) ∧ J (k + 1) (tailL s) W') ∨ (e = .returned (.bool false) ∧ Jx W')))
    (W : World) (s : ByteArray) (hb : SBox W bx s) (h0 : J 0 s W) (hz : s.size ≤ 1048576) :
    CallsIn Fence.wide n Tryz.prog 44 #[.func (.yield l) #[] #[], .pointer (some ⟨bx, 0, none⟩)] W fun e W' => (∃ v, e = .returned v) ∧ ((∃ k s, s.size = 0 ∧ J k s W') ∨ Jx W') := by
  refine callsIn_of_wp Tryz.func44 rfl trivial ?_ rfl
  simp only [Tryz.ntmps44, List.size_toArray, List.length_cons, List.length_nil, Nat.reduceAdd, Nat.reduceSub, Array.replicate_succ, Array.replicate_zero, List.push_toArray, List.append_toArray, List.nil_append, List.cons_append]
  gi_wp2
  gi_loopw [3, 4] (fun v3 v4 wr => ∃ (k : Nat) (t : ByteArray), SBox wr bx t ∧ J k t wr ∧ t.size ≤ 1048576) (fun v3 v4 wr => match wr.cell? ⟨bx, 0, none⟩ with | some (.string t) => t.size | _ => 0)
  case atStart => exact ⟨0, s, hb, h0, hz⟩
  case round =>
    obtain ⟨k, t, hB, hJk, hzt⟩ := hrel
    have hc : wr.cell? ⟨bx, 0, none⟩ = some (.string t) := by have := blk_cell hB 0; simpa using this
    by_cases ht : t.size = 0
    · have p0 : decide ((0 : Int) < (t.size : Int)) = false := decide_eq_false (by omega)
      have p1 : decide (0 < t.size) = false := decide_eq_false (by omega)
      gi_wp2
      go_end0
      exact ⟨⟨_, rfl⟩, .inl ⟨k, t, ht, hJk⟩⟩
    · have p0 : decide ((0 : Int) < (t.size : Int)) = true := decide_eq_true (by omega)
      have p1 : decide (0 < t.size) = true := decide_eq_true (by omega)
      gi_wp2
      refine ⟨trivial, fun h => (by cases h), ?_⟩
      refine (callsIn_wide.2 (Tryz.strings_IndexByte t 10 wr)).mono ?_
      rintro e w' ⟨rfl, rfl⟩
      have hX := Aside0.mk (And.intro hB (And.intro hJk (And.intro hzt ht)))
      by_cases hi : Lib.indexByte t.data.toList 10 = -1
      · have hh : headL t = t := if_pos hi
        have hl : tailL t = ByteArray.empty := if_pos hi
        rw [show Lib.indexByte t.data.toList (10 : Int).toNat.toUInt8 = -1 from hi]
        have q1 : decide ((0 : Int) ≤ -1) = false := by decide
        have hsz : (tailL t).size = 0 := by rw [hl]; rfl
        obtain ⟨x1, x2⟩ := lay (Below.refl _ _) hB
        obtain ⟨fn, tmps, assign, body, hy, hR⟩ := hY k t (w'.setCell ⟨bx, 0, none⟩ (.string ⟨#[]⟩)) (hJ _ _ _ _ hX.out.2.1 (Tch.set rfl)) hX.out.2.2.2 (by unfold SBox; rw [hl]; exact blk_set hX.out.1 0 _)
        rw [hh] at hy
        gi_wp2
        refine ⟨fun h => (by cases h), ?_⟩
        refine hR.mono ?_
        rintro e W3 ⟨hS3, (⟨rfl, hJ3⟩ | ⟨rfl, hJx⟩)⟩
        · have hc3 : W3.cell? ⟨bx, 0, none⟩ = some (.string (tailL t)) := by have := blk_cell hS3 0; simpa using this
          gi_wp2
          go_roundw
          case rel => exact ⟨k + 1, tailL t, hS3, hJ3, by rw [hsz]; omega⟩
          case measure => rw [hc3, hc]; show (tailL t).size < t.size; rw [hsz]; omega
        · gi_wp2
          refine bodyPost_ret (results_none rfl _ _ _) rfl ?_
          exact ⟨⟨_, rfl⟩, .inr hJx⟩
      · obtain ⟨i, hi2⟩ : ∃ i : Nat, Lib.indexByte t.data.toList 10 = i := ⟨(Lib.indexByte t.data.toList 10).toNat, by have := Lib.indexByte_ge t.data.toList 10; omega⟩
        have hil : i < t.size := by rw [Lib.size_eq]; exact (byte_at hi2).2.2
        have hh : headL t = t.extract 0 (i + 1) := by unfold headL; rw [if_neg hi, hi2]; rfl
        have hl : tailL t = t.extract (i + 1) t.size := by unfold tailL; rw [if_neg hi, hi2]; rfl
        rw [show Lib.indexByte t.data.toList (10 : Int).toNat.toUInt8 = i from hi2]
        have q0 : IntKind.i64.wrap ((i : Int) + 1) = (i : Int) + 1 := IntWalk.i64_in _ (by omega)
        have hi3 : i + 1 ≤ t.size := hil
        have hi4 : (i : Int) + 1 ≤ (t.size : Int) := by omega
        have q1 : decide ((0 : Int) ≤ (i : Int)) = true := decide_eq_true (by omega)
        have hsz : (tailL t).size = t.size - (i + 1) := by rw [hl, ByteArray.size_extract]; omega
        gi_wp2
        refine wpIn_wide.2 ?_
        refine Grow.wp_region_tail 9 (by kernel_rfl) (by kernel_rfl) ?_
        dsimp only [List.take, List.drop]
        repeat ((first | (refine Grow.lexP_do _ (by rfl) (by rfl) (by intro W hj; have s0 := pw_cell_below hj.out hc; go_simp; first | exact Grow.UponB.val) ?_)); refine Grow.lexP_norm (fun K hK => ?_); go_simp; refine hK _ ?_; clear hK K)
        refine Grow.lexP_nil (fun W hj => ?_)
        have hBW : SBox W bx t := blk_below hX.out.1 hj.out
        refine wpList_put1 rfl rfl _ _ _ rfl (g := bx) (i := 0) (.string (t.extract (i + 1) t.size)) rfl rfl rfl (by kernel_rfl) rfl hBW (show 0 < 1 by decide) ?_
        intro W2 hS hT0 _
        have hT : Tch (fun k => k = bx) w' W2 := (Tch.of_below hj.out).trans hT0
        obtain ⟨fn, tmps, assign, body, hy, hR⟩ := hY k t W2 (hJ _ _ _ _ hX.out.2.1 (hT)) hX.out.2.2.2 (by unfold SBox; rw [hl]; exact hS)
        rw [hh] at hy
        have hb3 : Aside0 (Below W.heap.size W W) := ⟨Below.refl _ _⟩
        show Exit.then _ _ .normal _ _
        gi_wp2
        refine ⟨fun h => (by cases h), ?_⟩
        refine hR.mono ?_
        rintro e W3 ⟨hS3, (⟨rfl, hJ3⟩ | ⟨rfl, hJx⟩)⟩
        · have hc3 : W3.cell? ⟨bx, 0, none⟩ = some (.string (tailL t)) := by have := blk_cell hS3 0; simpa using this
          gi_wp2
          go_roundw
          case rel => exact ⟨k + 1, tailL t, hS3, hJ3, by rw [hsz]; omega⟩
          case measure => rw [hc3, hc]; show (tailL t).size < t.size; rw [hsz]; omega
        · gi_wp2
          refine bodyPost_ret (results_none rfl _ _ _) rfl ?_
          exact ⟨⟨_, rfl⟩, .inr hJx⟩
end Go.Proofs.YtbccaabaplbmhaaGreatDoor.L1
namespace Go.Proofs.YtbccaabaplbmhaaGreatDoor.L1
open Go.RowKit Go.Proofs.YtbccaabaplbmhaaGreatDoorW.PrintWords Go.Proofs.YtbccaabaplbmhaaGreatDoor.B
set_option linter.unusedVariables false
set_option linter.unusedSimpArgs false
attribute [local go_sem] Oper.semAt_some
/-- What the loop itself does to the heap, as its caller sees it: cells stay, but for the text's own. -/
structure Off (bx b0 : Nat) (W W' : World) : Prop where
  same : ∀ (k : Nat) (cs : Array Value) (T : TypeId) (fr : Nat × Nat), W.heap[k]? = some (.cells cs T fr) → k ≠ bx → W'.heap[k]? = some (.cells cs T fr)
  below : ∀ w0 : World, w0.heap.size ≤ b0 → Below w0.heap.size w0 W → Below w0.heap.size w0 W'
theorem Off.of_tch {bx b0 : Nat} {W W' : World} (hb : b0 ≤ bx) (h : Tch (fun k => k = bx) W W') : Off bx b0 W W' :=
  ⟨fun k cs T fr hk hn => (h.same k (blk_lt' hk) hn).trans hk, fun w0 h0 hB => h.below w0 (fun k hk => by rw [hk]; omega) hB⟩
theorem Off.put {bx b0 : Nat} {W : World} {l : Nat} {o : Obj} (o' : Obj) (hb : b0 ≤ l) (hl : W.heap[l]? = some o) (ho : o.isCells = false) : Off bx b0 W (W.putObj l o') :=
  ⟨fun k cs T fr hk hn => (World.putObj_heap_other (fun e => by rw [e, hl] at hk; injection hk with hk; rw [hk] at ho; cases ho)).trans hk,
   fun w0 h0 hB => hB.grown (grownBy_putObj' W l o') hB.size (fun k e => by cases e; omega)⟩
theorem Off.alloc {bx b0 : Nat} {W : World} (o : Obj) : Off bx b0 W (W.alloc o) := ⟨fun k cs T fr hk _ => blk_box hk o, fun w0 _ hB => bel_box hB o⟩
/-- What is no cells lies as it lay. -/
def KR (W W' : World) : Prop := ∀ (k : Nat) (o : Obj), W.heap[k]? = some o → o.isCells = false → W'.heap[k]? = some o
/-- How a round may end. -/
def roundEnd (bx : Nat) (I : Nat → ByteArray → World → Prop) (Ix : World → Prop) (k : Nat) (t : ByteArray) (W : World) : Exit → Act → World → Prop
  | .normal, _, W' => KR W W' ∧ SBox W' bx t ∧ I (k + 1) t W'
  | .ret, _, W' => KR W W' ∧ SBox W' bx t ∧ Ix W'
  | _, _, _ => False
theorem SBox.put {W : World} {bx l : Nat} {s : ByteArray} {o : Obj} (h : SBox W bx s) (o' : Obj) (hl : W.heap[l]? = some o) (ho : o.isCells = false) : SBox (W.putObj l o') bx s := (World.putObj_heap_other (fun e => by unfold SBox at h; rw [e, hl] at h; injection h with h; rw [h] at ho; cases ho)).trans h
theorem wp_lines {g : Operand} {ps : Array Tmp} {assign body : Code} {Q : Exit → Act → World → Prop} {a : Act} {w : World} (n : Nat) (hn : 4 ≤ n) (bx b0 : Nat) (s0 : ByteArray)
    (hg : a.eval g = .func (.func 44) #[] #[.pointer (some ⟨bx, 0, none⟩)]) (hps : ps.size = 1) (hbx : SBox w bx s0) (hz : s0.size ≤ 1048576) (hb0 : b0 ≤ bx) (hb1 : b0 ≤ w.heap.size)
    (I : Nat → ByteArray → World → Prop) (Ix : World → Prop) (hI : ∀ k s W W', I k s W → Off bx b0 W W' → I k s W') (hIx : ∀ W W', Ix W → Off bx b0 W W' → Ix W') (h0 : I 0 s0 w) (a₁ : ByteArray → Act)
    (hassign : ∀ (l : Nat) (x : ByteArray) (W : World) (K : Act → World → Prop), K (a₁ x) W → assign.wpIn (Fence.wide.inRound l) (n - 1 - 1) Tryz.prog (Exit.then K (fun _ _ _ => False)) { tmps := (ps.zip #[.string x]).foldl (fun t (p, v) => t.setIfInBounds p v) a.tmps, defers := [] } W)
    (hbody : ∀ (l k : Nat) (s : ByteArray) (W : World), I k s W → s.size ≠ 0 → SBox W bx (tailL s) → body.wpIn (Fence.wide.inRound l) (n - 1 - 1) Tryz.prog (roundEnd bx I Ix k (tailL s) W) (a₁ (headL s)) W)
    (hdone : ∀ (D k : Nat) (s : ByteArray) (W : World), s.size = 0 → w.heap.size ≤ D → I k s W → W.heap[D]? = some (.deferred (some [])) → Q .normal { a with defers := { target := .collected D, args := #[] } :: a.defers } W)
    (hstop : ∀ (D : Nat) (W : World), w.heap.size ≤ D → Ix W → W.heap[D]? = some (.deferred (some [])) → Code.ret.wpIn Fence.wide n Tryz.prog Q { a with defers := { target := .collected D, args := #[] } :: a.defers } W) :
    (Code.rangeFunc g ps assign body).wpIn Fence.wide n Tryz.prog Q a w := by
  refine wpIn_rangeFunc ?_
  intro fn hfn
  have hbl := blk_lt' hbx
  obtain ⟨D, hD⟩ : ∃ D, D = w.heap.size := ⟨_, rfl⟩
  obtain ⟨rec, hrec⟩ : ∃ rec : LoopState → Option Code → Loop, rec = fun st pe => { state := st, pending := pe, fn, tmps := a.tmps, params := ps, assign, body, defers := w.heap.size } := ⟨_, rfl⟩
  obtain ⟨W1, hW1⟩ : ∃ W1, (w.alloc (.deferred (some []))).alloc (.loop (rec .ready none)) = W1 := ⟨_, rfl⟩
  have hL1 : W1.heap[D + 1]? = some (.loop (rec .ready none)) := by
    rw [← hW1, hD]; have := World.alloc_heap_new (w.alloc (.deferred (some []))) (.loop (rec .ready none)); rwa [World.size_alloc] at this
  have hD1 : W1.heap[D]? = some (.deferred (some [])) := by
    rw [← hW1, hD]; exact (Below.heap_alloc _ _ _ (by simp)).trans (World.alloc_heap_new w _)
  have hI1 : I 0 s0 W1 := by rw [← hW1]; exact hI _ _ _ _ (hI _ _ _ _ h0 (Off.alloc _)) (Off.alloc _)
  have hS1 : SBox W1 bx s0 := by rw [← hW1]; exact blk_box (blk_box hbx _) _
  have hf : ∀ args w, (callFunc 44 args).run Tryz.prog w = .ok (.enter 44 args) w := enters_of Tryz.func44 (by kernel_rfl) rfl
  refine ⟨D + 1, [{ target := .collected D, args := #[] }], W1, { target := .fn (.func 44) #[.pointer (some ⟨bx, 0, none⟩)], args := #[.func (.yield (D + 1)) #[] #[]] }, W1, 44, #[.func (.yield (D + 1)) #[] #[], .pointer (some ⟨bx, 0, none⟩)], W1, ?_, ?_, fun _ _ => trivial, ?_, fun h => (by cases h), ?_⟩
  · rw [← hW1, hrec, hD]; exact run_enterLoop_outer _ _ _ _ _
  · simp only [resolve, hg]
    simp [go_sem]
  · simp [invoke, go_sem, hf]
  have hbr : ∀ (st st' : LoopState) (pe pe' : Option Code), True := fun _ _ _ _ => trivial
  -- the iterator, at the rounds
  have hcall := lines_in (n - 1) (by omega) (D + 1) bx (fun k s W => I k s W ∧ W.heap[D + 1]? = some (.loop (rec .ready none)) ∧ W.heap[D]? = some (.deferred (some []))) (fun W => Ix W ∧ W.heap[D + 1]? = some (.loop (rec .done (some .ret))) ∧ W.heap[D]? = some (.deferred (some [])))
    (fun k s W W' h ht => ⟨hI _ _ _ _ h.1 (Off.of_tch hb0 ht), tch_at ht (show ¬ D + 1 = bx by omega) h.2.1, tch_at ht (show ¬ D = bx by omega) h.2.2⟩) ?_ W1 s0 hS1 ⟨hI1, hL1, hD1⟩ hz
  · refine hcall.mono ?_
    rintro e W2 ⟨⟨v, rfl⟩, (⟨k, s, hs, hi, hl, hd⟩ | ⟨hi, hl, hd⟩)⟩
    · refine ⟨none, W2.putObj (D + 1) (.loop { rec .ready none with state := .exhausted }), ?_, ?_⟩
      · have := run_endLoop (P := Tryz.prog) hl (by rw [hrec]; simp)
        rw [hrec] at this ⊢
        exact this
      · exact hdone D k s _ hs (by omega) (hI _ _ _ _ hi (Off.put _ (by omega) hl rfl)) ((World.putObj_heap_other (by omega)).trans hd)
    · refine ⟨some .ret, W2.putObj (D + 1) (.loop { rec .done (some .ret) with state := .exhausted }), ?_, ?_⟩
      · have := run_endLoop (P := Tryz.prog) hl (by rw [hrec]; simp)
        rw [hrec] at this ⊢
        exact this
      · exact hstop D _ (by omega) (hIx _ _ hi (Off.put _ (by omega) hl rfl)) ((World.putObj_heap_other (by omega)).trans hd)
  · rintro k s W ⟨hi, hl, hd⟩ hs hS
    have hlt : D + 1 < W.heap.size := (Array.getElem?_eq_some_iff.1 hl).1
    have hy := run_yield (P := Tryz.prog) (args := #[.string (headL s)]) hl (by rw [hrec]; exact hps.symm)
    rw [hrec] at hy
    refine ⟨fn, _, assign, body, hy, roundIn_of_wpIn hfn (hassign _ (headL s) W _ ⟨_, run_beginRound hl (by rw [hrec]), ?_⟩)⟩
    obtain ⟨Wb, hWb⟩ : ∃ Wb, W.putObj (D + 1) (.loop { rec .ready none with state := .busy }) = Wb := ⟨_, rfl⟩
    rw [hWb]
    have hlb : Wb.heap[D + 1]? = some (.loop { rec .ready none with state := .busy }) := by rw [← hWb]; exact World.putObj_heap_same hlt
    have hdb : Wb.heap[D]? = some (.deferred (some [])) := by rw [← hWb]; exact (World.putObj_heap_other (by omega)).trans hd
    have hib : I k s Wb := by rw [← hWb]; exact hI _ _ _ _ hi (Off.put _ (by omega) hl rfl)
    have hSb : SBox Wb bx (tailL s) := by rw [← hWb]; exact hS.put _ hl rfl
    refine wpIn_mono (hbody _ k s Wb hib hs hSb) ?_
    rintro e a3 W3 hp
    cases e with
    | normal =>
      obtain ⟨hk3, hS3, hi3⟩ := hp
      have hl3 := hk3 _ _ hlb rfl
      have hd3 := hk3 _ _ hdb rfl
      have hlt3 : D + 1 < W3.heap.size := (Array.getElem?_eq_some_iff.1 hl3).1
      have hr := run_endRound (P := Tryz.prog) none hl3
      rw [hrec] at hr hl3 ⊢
      refine ⟨_, _, hr, hS3.put _ hl3 rfl, .inl ⟨rfl, hI _ _ _ _ hi3 (Off.put _ (by omega) hl3 rfl), World.putObj_heap_same hlt3, (World.putObj_heap_other (by omega)).trans hd3⟩⟩
    | ret =>
      obtain ⟨hk3, hS3, hi3⟩ := hp
      have hl3 := hk3 _ _ hlb rfl
      have hd3 := hk3 _ _ hdb rfl
      have hlt3 : D + 1 < W3.heap.size := (Array.getElem?_eq_some_iff.1 hl3).1
      have hr := run_endRound (P := Tryz.prog) (some .ret) hl3
      rw [hrec] at hr hl3 ⊢
      refine ⟨_, _, hr, hS3.put _ hl3 rfl, .inr ⟨rfl, hIx _ _ hi3 (Off.put _ (by omega) hl3 rfl), World.putObj_heap_same hlt3, (World.putObj_heap_other (by omega)).trans hd3⟩⟩
    | exit id => exact hp.elim
    | goto t => exact hp.elim
    | panic ch => exact hp.elim
    | outgrown => exact hp.elim
end Go.Proofs.YtbccaabaplbmhaaGreatDoor.L1
namespace Go.Proofs.YtbccaabaplbmhaaGreatDoor.L1
open Go.RowKit Go.Proofs.YtbccaabaplbmhaaGreatDoorW.PrintWords Go.Proofs.YtbccaabaplbmhaaGreatDoor.B Go.Extern.Stop Go.Stop Go.Extern
set_option linter.unusedVariables false
set_option linter.unusedSimpArgs false
attribute [local go_sem] mk_cell mk_frozen
theorem as_nil (t : Value) (w : World) : Calls Tryz.prog 27 #[.nilIface, t] w fun e w' => e = .returned (.bool false) ∧ w = w' := by
  go_enter Tryz.func27, Tryz.ntmps27
  go_wp2
  go_ret
  exact ⟨rfl, rfl⟩
theorem rlm (z : Sem Value) (f : TypeId → Addr → Nat → Nat → Sem Value) (v : Value) :
    ReflectliteValue.method z f #[v] = (do match ← ReflectliteValue.parts v with | none => z | some (t, a, fl) => f t a fl (fl % 32)) := rfl
theorem rls (v x : Value) : ReflectliteValue.set #[v, x] = (do
    let (some (dst, a, fl), some (src, b, _)) := (← ReflectliteValue.parts v, ← ReflectliteValue.parts x)
      | unsupported (.noEntry "extern/(internal/reflectlite.Value).Set.zeroValue")
    if fl / ReflectliteValue.flagAddr % 2 == 0 then unsupported (.noEntry "extern/(internal/reflectlite.Value).Set.unaddressable")
    let val ← loadVar src b
    if ← Rtype.directlyAssignable dst src then storeVar dst a val
    else if ← Rtype.implements dst src then
      if (← Rtype.kind src) == 20 then
        match val with
        | .nilIface => unsupported (.noEntry "extern/reflectlite: a nil value of one interface type handed on as a value of another")
        | _ => storeVar dst a val
      else storeVar dst a (.iface src val)
    else panicString ("reflectlite.Set: value of type " ++ (← Rtype.spelt src) ++ " is not assignable to type " ++ (← Rtype.spelt dst))
    pure (.tuple #[])) := rfl
theorem valueOfP (t : Addr) (w : World) : (ReflectliteValue.unpack (.iface 71 (.pointer (some t)))).run Tryz.prog w = .ok (.agg #[.pointer (some ⟨10, 71, none⟩), .pointer (some ⟨w.heap.size, 0, none⟩), .int .u64 150]) (w.alloc (.cells #[.pointer (some t)] 71)) := by kernel_rfl
theorem typeP (a : Addr) (w : World) : (ReflectliteValue.methodAny (ReflectliteValue.valueError "reflectlite.Value.Type" 0) (fun t _ _ _ => ReflectliteType.toType t) #[.agg #[.pointer (some ⟨10, 71, none⟩), .pointer (some a), .int .u64 150]]).run Tryz.prog w = .ok (.iface 121 (.agg #[.pointer (some ⟨10, 71, none⟩)])) w := by kernel_rfl
theorem kindP (w : World) : ((ReflectliteType.abiMethod fun t => (fun a : Nat => Value.int IntKind.u8 (a : Int)) <$> Rtype.kind t) #[.pointer (some ⟨10, 71, none⟩)]).run Tryz.prog w = .ok (.int .u8 22) w := by kernel_rfl
theorem kindE (w : World) : ((ReflectliteType.abiMethod fun t => (fun a : Nat => Value.int IntKind.u8 (a : Int)) <$> Rtype.kind t) #[.pointer (some ⟨10, 65, none⟩)]).run Tryz.prog w = .ok (.int .u8 25) w := by kernel_rfl
theorem partsP (a : Addr) (w : World) : (ReflectliteValue.parts (.agg #[.pointer (some ⟨10, 71, none⟩), .pointer (some a), .int .u64 150])).run Tryz.prog w = .ok (some (71, a, 150)) w := by kernel_rfl
theorem isNilP (a p : Addr) (W : World) (ha : W.cell? a = some (.pointer (some p))) :
    (ReflectliteValue.method (ReflectliteValue.valueError "reflectlite.Value.IsNil" 0) ReflectliteValue.isNil #[.agg #[.pointer (some ⟨10, 71, none⟩), .pointer (some a), .int .u64 150]]).run Tryz.prog W = .ok (.bool false) W := by
  rw [rlm]
  simp only [Sem.run_bind, partsP, Result.andThen]
  simp [ReflectliteValue.isNil, loadVar, isAgg, underlying, Tryz.underlying71, ha, Result.andThen]
theorem elemP (w : World) : (ReflectliteType.method ReflectliteType.elem #[.agg #[.pointer (some ⟨10, 71, none⟩)]]).run Tryz.prog w = .ok (.iface 121 (.agg #[.pointer (some ⟨10, 65, none⟩)])) w := by kernel_rfl
theorem typeOfE (v : Value) (w : World) : (ReflectliteType.typeOf #[.iface 65 v]).run Tryz.prog w = .ok (.iface 121 (.agg #[.pointer (some ⟨10, 65, none⟩)])) w := by kernel_rfl
theorem assignableE (w : World) : (ReflectliteType.relation "AssignableTo" ReflectliteType.assignableTo #[.agg #[.pointer (some ⟨10, 65, none⟩)], .iface 121 (.agg #[.pointer (some ⟨10, 65, none⟩)])]).run Tryz.prog w = .ok (.bool true) w := by kernel_rfl
theorem implementsE (w : World) : (ReflectliteType.relation "Implements" ReflectliteType.implements_ #[.agg #[.pointer (some ⟨10, 65, none⟩)], .iface 121 (.agg #[.pointer (some ⟨10, 67, none⟩)])]).run Tryz.prog w = .ok (.bool true) w := by kernel_rfl
theorem valueOfE (e : Int) (w : World) : (ReflectliteValue.unpack (.iface 65 (.agg #[.int .i64 e]))).run Tryz.prog w = .ok (.agg #[.pointer (some ⟨10, 65, none⟩), .pointer (some ⟨w.heap.size, 0, none⟩), .int .u64 153]) (w.alloc (.cells #[.int .i64 e] 65)) := by kernel_rfl
theorem elemOfP (w : World) : (Rtype.elem? 71).run Tryz.prog w = .ok (some 65) w := by kernel_rfl
theorem mkE (p : Addr) (w : World) : (ReflectliteValue.mk 65 p ReflectliteValue.flagAddr).run Tryz.prog w = .ok (.agg #[.pointer (some ⟨10, 65, none⟩), .pointer (some p), .int .u64 409]) w := by kernel_rfl
theorem elemVP (a p : Addr) (W : World) (ha : W.cell? a = some (.pointer (some p))) :
    (ReflectliteValue.method (ReflectliteValue.valueError "reflectlite.Value.Elem" 0) ReflectliteValue.elem #[.agg #[.pointer (some ⟨10, 71, none⟩), .pointer (some a), .int .u64 150]]).run Tryz.prog W = .ok (.agg #[.pointer (some ⟨10, 65, none⟩), .pointer (some p), .int .u64 409]) W := by
  rw [rlm]
  simp only [Sem.run_bind, partsP, Result.andThen]
  simp [ReflectliteValue.elem, loadVar, isAgg, underlying, Tryz.underlying71, ha, Result.andThen, elemOfP, mkE]
theorem partsEa (a : Addr) (w : World) : (ReflectliteValue.parts (.agg #[.pointer (some ⟨10, 65, none⟩), .pointer (some a), .int .u64 409])).run Tryz.prog w = .ok (some (65, a, 409)) w := by kernel_rfl
theorem partsE (a : Addr) (w : World) : (ReflectliteValue.parts (.agg #[.pointer (some ⟨10, 65, none⟩), .pointer (some a), .int .u64 153])).run Tryz.prog w = .ok (some (65, a, 153)) w := by kernel_rfl
theorem directE (w : World) : (Rtype.directlyAssignable 65 65).run Tryz.prog w = .ok true w := by kernel_rfl
theorem setE (t b : Nat) (e : Int) (old : Value) (W : World) (hb : W.heap[b]? = some (.cells #[.int .i64 e] 65 (0, 0))) (ht : W.heap[t]? = some (.cells #[old] 65 (0, 0))) :
    (ReflectliteValue.set #[.agg #[.pointer (some ⟨10, 65, none⟩), .pointer (some ⟨t, 0, none⟩), .int .u64 409], .agg #[.pointer (some ⟨10, 65, none⟩), .pointer (some ⟨b, 0, none⟩), .int .u64 153]]).run Tryz.prog W = .ok (.tuple #[]) (W.setCells t 0 [.int .i64 e]) := by
  rw [rls]
  have h1 : (loadVar 65 ⟨b, 0, none⟩).run Tryz.prog W = .ok (.agg #[.int .i64 e]) W := run_loadVar_row W b 65 65 #[.int .i64 e] (0, 0) _ hb Tryz.underlying65 rfl (by kernel_rfl)
  have h2 : (Instr.storeAt 65 (.pointer (some ⟨t, 0, none⟩)) (.agg #[.int .i64 e])).run Tryz.prog W = .ok () (W.setCells t 0 [.int .i64 e]) := run_store_run 65 (.agg #[.int .i64 e]) [.int .i64 e] ht rfl (by kernel_rfl) (by simp) (by intro q hq; rw [List.mem_singleton.1 hq]; rfl)
  have h3 : (storeVar 65 ⟨t, 0, none⟩ (.agg #[.int .i64 e])).run Tryz.prog W = .ok () (W.setCells t 0 [.int .i64 e]) := by
    have := h2
    simp only [Instr.storeAt, Instr.sureAddr, Sem.run_bind, Sem.run_pure, Result.andThen_ok] at this
    exact this
  simp only [Sem.run_bind, partsEa, partsE, Result.andThen]
  simp [ReflectliteValue.flagAddr, h1, Result.andThen, directE, h3]
end Go.Proofs.YtbccaabaplbmhaaGreatDoor.L1
namespace Go.Proofs.YtbccaabaplbmhaaGreatDoor.L1
open Go.RowKit Go.Proofs.YtbccaabaplbmhaaGreatDoorW.PrintWords Go.Proofs.YtbccaabaplbmhaaGreatDoor.B Go.Extern.Stop Go.Stop Go.Extern
set_option linter.unusedVariables false
set_option linter.unusedSimpArgs false
theorem methodKind (h : Value) (w : World) : (Go.method 307 121 (.agg #[h]) "Kind").run Tryz.prog w = .ok (125, h) w := by kernel_rfl
theorem methodElem (h : Value) (w : World) : (Go.method 307 121 (.agg #[h]) "Elem").run Tryz.prog w = .ok (135, .agg #[h]) w := by kernel_rfl
theorem methodImplements (h : Value) (w : World) : (Go.method 307 121 (.agg #[h]) "Implements").run Tryz.prog w = .ok (136, .agg #[h]) w := by kernel_rfl
theorem methodAssignableTo (h : Value) (w : World) : (Go.method 307 121 (.agg #[h]) "AssignableTo").run Tryz.prog w = .ok (133, .agg #[h]) w := by kernel_rfl
set_option maxRecDepth 100000 in
set_option maxHeartbeats 4000000 in
theorem as_hit (e : Int) (t : Nat) (old : Value) (w : World) (hg : w.cell? ⟨1, 0, none⟩ = some (.iface 121 (.agg #[.pointer (some ⟨10, 67, none⟩)]))) (ht : w.heap[t]? = some (.cells #[old] 65 (0, 0))) :
    Calls Tryz.prog 27 #[.iface 65 (.agg #[.int .i64 e]), .iface 71 (.pointer (some ⟨t, 0, none⟩))] w fun ev w' => ev = .returned (.bool true) ∧ w'.heap[t]? = some (.cells #[.int .i64 e] 65 (0, 0)) ∧ Tch (fun k => k = t) w w' := by
  have h45 := @run_callFunc_extern Tryz.prog 52 _ (fun args => ReflectliteValue.unpack (args.getD 0 (.tuple #[]))) Tryz.func52 (by kernel_rfl) (by kernel_rfl) (by kernel_rfl) (by kernel_rfl)
  have h46 := @run_callFunc_extern Tryz.prog 53 _ (ReflectliteValue.methodAny (ReflectliteValue.valueError "reflectlite.Value.Type" 0) (fun t _ _ _ => ReflectliteType.toType t)) Tryz.func53 (by kernel_rfl) (by kernel_rfl) (by kernel_rfl) (by kernel_rfl)
  have h47 := @run_callFunc_extern Tryz.prog 54 _ (ReflectliteValue.method (ReflectliteValue.valueError "reflectlite.Value.IsNil" 0) ReflectliteValue.isNil) Tryz.func54 (by kernel_rfl) (by kernel_rfl) (by kernel_rfl) (by kernel_rfl)
  have h133 := @run_callFunc_extern Tryz.prog 125 _ (ReflectliteType.abiMethod fun t => do pure (.int .u8 (← Rtype.kind t))) Tryz.func125 (by kernel_rfl) (by kernel_rfl) (by kernel_rfl) (by kernel_rfl)
  have h143 := @run_callFunc_extern Tryz.prog 135 _ (ReflectliteType.method ReflectliteType.elem) Tryz.func135 (by kernel_rfl) (by kernel_rfl) (by kernel_rfl) (by kernel_rfl)
  have h144 := @run_callFunc_extern Tryz.prog 136 _ (ReflectliteType.relation "Implements" ReflectliteType.implements_) Tryz.func136 (by kernel_rfl) (by kernel_rfl) (by kernel_rfl) (by kernel_rfl)
  have h71 := @run_callFunc_extern Tryz.prog 68 _ ReflectliteType.typeOf Tryz.func68 (by kernel_rfl) (by kernel_rfl) (by kernel_rfl) (by kernel_rfl)
  have h141 := @run_callFunc_extern Tryz.prog 133 _ (ReflectliteType.relation "AssignableTo" ReflectliteType.assignableTo) Tryz.func133 (by kernel_rfl) (by kernel_rfl) (by kernel_rfl) (by kernel_rfl)
  have h72 := @run_callFunc_extern Tryz.prog 69 _ (ReflectliteValue.method (ReflectliteValue.valueError "reflectlite.Value.Elem" 0) ReflectliteValue.elem) Tryz.func69 (by kernel_rfl) (by kernel_rfl) (by kernel_rfl) (by kernel_rfl)
  have h73 := @run_callFunc_extern Tryz.prog 70 _ ReflectliteValue.set Tryz.func70 (by kernel_rfl) (by kernel_rfl) (by kernel_rfl) (by kernel_rfl)
  have tO := typeOfE
  have a25 := assignableE
  have v25 := valueOfE
  have f6 := valueOfP
  have f7 := typeP
  have k27 := kindP
  have k25 := kindE
  have e27 := elemP
  have i25 := implementsE
  have mK := methodKind
  have mE := methodElem
  have mI := methodImplements
  have mA := methodAssignableTo
  have htl := blk_lt' ht
  have hgl : 1 < w.heap.size := by
    rcases Nat.lt_or_ge 1 w.heap.size with h | h
    · exact h
    · simp [World.cell?, Array.getElem?_eq_none h] at hg
  have b2 : Below w.heap.size w ((w.alloc (.cells #[.pointer (some ⟨t, 0, none⟩)] 71)).alloc (.cells #[.pointer (some ⟨10, 71, none⟩), .pointer (some ⟨w.heap.size, 0, none⟩), .int .u64 150] 104)) := below_alloc (below_alloc (Below.refl _ _) _) _
  have hg2 : ((w.alloc (.cells #[.pointer (some ⟨t, 0, none⟩)] 71)).alloc (.cells #[.pointer (some ⟨10, 71, none⟩), .pointer (some ⟨w.heap.size, 0, none⟩), .int .u64 150] 104)).cell? ⟨1, 0, none⟩ = some (.iface 121 (.agg #[.pointer (some ⟨10, 67, none⟩)])) := pw_cell_below b2 hg
  have cw : ∀ (X : World), X.heap[w.heap.size]? = some (.cells #[.pointer (some ⟨t, 0, none⟩)] 71 (0, 0)) → X.cell? ⟨w.heap.size, 0, none⟩ = some (.pointer (some ⟨t, 0, none⟩)) := fun X h => by have := blk_cell h 0; simpa using this
  have k2 : ((w.alloc (.cells #[.pointer (some ⟨t, 0, none⟩)] 71)).alloc (.cells #[.pointer (some ⟨10, 71, none⟩), .pointer (some ⟨w.heap.size, 0, none⟩), .int .u64 150] 104)).heap[w.heap.size]? = some (.cells #[.pointer (some ⟨t, 0, none⟩)] 71 (0, 0)) := blk_box (al_new w _) _
  have k3 : (((w.alloc (.cells #[.pointer (some ⟨t, 0, none⟩)] 71)).alloc (.cells #[.pointer (some ⟨10, 71, none⟩), .pointer (some ⟨w.heap.size, 0, none⟩), .int .u64 150] 104)).alloc (.cells #[.pointer (some ⟨10, 71, none⟩), .pointer (some ⟨w.heap.size, 0, none⟩), .int .u64 150] 104)).heap[w.heap.size]? = some (.cells #[.pointer (some ⟨t, 0, none⟩)] 71 (0, 0)) := blk_box k2 _
  have n8 := isNilP ⟨w.heap.size, 0, none⟩ ⟨t, 0, none⟩ ((w.alloc (.cells #[.pointer (some ⟨t, 0, none⟩)] 71)).alloc (.cells #[.pointer (some ⟨10, 71, none⟩), .pointer (some ⟨w.heap.size, 0, none⟩), .int .u64 150] 104)) (cw _ k2)
  have el := elemVP ⟨w.heap.size, 0, none⟩ ⟨t, 0, none⟩ (((w.alloc (.cells #[.pointer (some ⟨t, 0, none⟩)] 71)).alloc (.cells #[.pointer (some ⟨10, 71, none⟩), .pointer (some ⟨w.heap.size, 0, none⟩), .int .u64 150] 104)).alloc (.cells #[.pointer (some ⟨10, 71, none⟩), .pointer (some ⟨w.heap.size, 0, none⟩), .int .u64 150] 104)) (cw _ k3)
  have b4 : Below w.heap.size w ((((w.alloc (.cells #[.pointer (some ⟨t, 0, none⟩)] 71)).alloc (.cells #[.pointer (some ⟨10, 71, none⟩), .pointer (some ⟨w.heap.size, 0, none⟩), .int .u64 150] 104)).alloc (.cells #[.pointer (some ⟨10, 71, none⟩), .pointer (some ⟨w.heap.size, 0, none⟩), .int .u64 150] 104)).alloc (.cells #[.int .i64 e] 65)) := below_alloc (below_alloc b2 _) _
  have ht4 : ((((w.alloc (.cells #[.pointer (some ⟨t, 0, none⟩)] 71)).alloc (.cells #[.pointer (some ⟨10, 71, none⟩), .pointer (some ⟨w.heap.size, 0, none⟩), .int .u64 150] 104)).alloc (.cells #[.pointer (some ⟨10, 71, none⟩), .pointer (some ⟨w.heap.size, 0, none⟩), .int .u64 150] 104)).alloc (.cells #[.int .i64 e] 65)).heap[t]? = some (.cells #[old] 65 (0, 0)) := blk_below ht b4
  have hb4 : ((((w.alloc (.cells #[.pointer (some ⟨t, 0, none⟩)] 71)).alloc (.cells #[.pointer (some ⟨10, 71, none⟩), .pointer (some ⟨w.heap.size, 0, none⟩), .int .u64 150] 104)).alloc (.cells #[.pointer (some ⟨10, 71, none⟩), .pointer (some ⟨w.heap.size, 0, none⟩), .int .u64 150] 104)).alloc (.cells #[.int .i64 e] 65)).heap[w.heap.size + 1 + 1 + 1]? = some (.cells #[.int .i64 e] 65 (0, 0)) := by
    have h := al_new (((w.alloc (.cells #[.pointer (some ⟨t, 0, none⟩)] 71)).alloc (.cells #[.pointer (some ⟨10, 71, none⟩), .pointer (some ⟨w.heap.size, 0, none⟩), .int .u64 150] 104)).alloc (.cells #[.pointer (some ⟨10, 71, none⟩), .pointer (some ⟨w.heap.size, 0, none⟩), .int .u64 150] 104)) (.cells #[.int .i64 e] 65)
    simp only [al_size] at h
    exact h
  have st := setE t (w.heap.size + 1 + 1 + 1) e old ((((w.alloc (.cells #[.pointer (some ⟨t, 0, none⟩)] 71)).alloc (.cells #[.pointer (some ⟨10, 71, none⟩), .pointer (some ⟨w.heap.size, 0, none⟩), .int .u64 150] 104)).alloc (.cells #[.pointer (some ⟨10, 71, none⟩), .pointer (some ⟨w.heap.size, 0, none⟩), .int .u64 150] 104)).alloc (.cells #[.int .i64 e] 65)) hb4 ht4
  go_enter Tryz.func27, Tryz.ntmps27
  go_wp2
  refine wp_loop_rounds 1 ?_
  rw [rounds_succ]
  go_wp2
  go_ret
  exact ⟨rfl, blk_set ht4 0 _, (Tch.of_below b4).trans (Tch.set rfl)⟩
end Go.Proofs.YtbccaabaplbmhaaGreatDoor.L1
namespace Go.Proofs.YtbccaabaplbmhaaGreatDoor.L1
open Go.RowKit Go.Proofs.YtbccaabaplbmhaaGreatDoorW.PrintWords Go.Proofs.YtbccaabaplbmhaaGreatDoor.B
set_option linter.unusedVariables false
set_option linter.unusedSimpArgs false
attribute [local go_sem] Oper.semAt_some
theorem impl_line (w w0 : World) (hG : Gl w0) (gi gk : Nat) (A0 A1 A2 : Option Addr) (c0 c1 c2 : Nat) (x : Inst) (hI : w.heap[gi]? = some (.cells #[.slice A0 x.vs.length c0, .slice A1 x.qs.length c1, .slice A2 x.rs.length c2] 27 (0, 0))) (hK : w.heap[gk]? = some (.cells #[.int .i64 (kindNo x)] 3 (0, 0))) (h0 : kVeh.R 45 w w0.heap.size (fun _ => True) (.slice A0 x.vs.length c0) x.vs) (h1 : kReq.R 48 w w0.heap.size (fun _ => True) (.slice A1 x.qs.length c1) x.qs) (h2 : kRoad.R 51 w w0.heap.size (fun _ => True) (.slice A2 x.rs.length c2) x.rs)
    (hB : Below w0.heap.size w0 w) (hgi : w0.heap.size ≤ gi) (hgk : w0.heap.size ≤ gk) (hf : x.tiny) (s : ByteArray) (hz : s.size ≤ 1048576) : Calls Tryz.prog 26 #[.pointer (some ⟨gi, 0, none⟩), .string s, .pointer (some ⟨gk, 0, none⟩)] w fun e w' => LineEnd w w0 gi gk (.slice A0 x.vs.length c0) (.slice A1 x.qs.length c1) (.slice A2 x.rs.length c2) (lineP x (bytesOf s)) e w' := by
  rcases kindOf_cases ((pieces 32 (bytesOf s)).getD 0 []) with hk | hk | hk | hk
  · exact impl_line0 w w0 hG gi gk A0 A1 A2 c0 c1 c2 x hI hK h0 h1 h2 hB hgi hgk hf s hz hk
  · exact impl_line1 w w0 hG gi gk A0 A1 A2 c0 c1 c2 x hI hK h0 h1 h2 hB hgi hgk hf s hz hk
  · exact impl_line2 w w0 hG gi gk A0 A1 A2 c0 c1 c2 x hI hK h0 h1 h2 hB hgi hgk hf s hz hk
  · exact impl_line3 w w0 hG gi gk A0 A1 A2 c0 c1 c2 x hI hK h0 h1 h2 hB hgi hgk hf s hz hk
theorem impl_Lines (w : World) (s : ByteArray) : Calls Tryz.prog 24 #[.string s] w fun e w' => e = .returned (.func (.func 44) #[] #[.pointer (some ⟨w.heap.size, 0, none⟩)]) ∧ w.alloc (.cells #[.string s] 9) = w' := by
  go_enter Tryz.func24, Tryz.ntmps24
  go_wp2
  go_ret
  exact ⟨rfl, rfl⟩
theorem cut_hit {s : ByteArray} {i : Nat} (h : Lib.indexByte s.data.toList 10 = i) : (headL s).size = i + 1 ∧ Lib.hasSuffix (headL s).data.toList [10] = true ∧ bytesOf ((headL s).extract 0 i) = ofU (s.data.toList.take i) ∧ bytesOf (tailL s) = ofU (s.data.toList.drop (i + 1)) ∧ (tailL s).size + (i + 1) = s.size := by
  have hne : ¬ Lib.indexByte s.data.toList 10 = -1 := by omega
  obtain ⟨e1, e2, e3⟩ := byte_at h
  have hi : (Lib.indexByte s.data.toList 10).toNat = i := by omega
  have hh : headL s = s.extract 0 (i + 1) := by unfold headL; rw [if_neg hne, hi]
  have hl : tailL s = s.extract (i + 1) s.size := by unfold tailL; rw [if_neg hne, hi]
  have hd : (headL s).data.toList = s.data.toList.take i ++ [10] := by
    rw [hh, Lib.extract_from_zero]
    conv => lhs; rw [e1]
    rw [List.take_append, List.length_take, Nat.min_eq_left (by omega), List.take_of_length_le (by rw [List.length_take]; omega), show i + 1 - i = 1 by omega]
    rfl
  have hz : (headL s).size = i + 1 := by rw [Lib.size_eq, hd, List.length_append, List.length_take, Nat.min_eq_left (by omega)]; rfl
  refine ⟨hz, ?_, ?_, ?_, ?_⟩
  · unfold Lib.hasSuffix
    rw [hd, List.isSuffixOf_iff_suffix]
    exact ⟨_, rfl⟩
  · unfold bytesOf
    rw [Lib.extract_from_zero, hd, List.take_append_of_le_length (by rw [List.length_take]; omega), List.take_take, Nat.min_self]
  · unfold bytesOf
    rw [hl, Lib.extract_to_end]
  · rw [hl, Lib.size_eq, Lib.extract_to_end, List.length_drop, ← Lib.size_eq]
    have := Lib.size_eq s
    omega
theorem cut_miss {s : ByteArray} (h : Lib.indexByte s.data.toList 10 = -1) : headL s = s ∧ Lib.hasSuffix s.data.toList [10] = false := by
  refine ⟨if_pos h, ?_⟩
  have hm := byte_none h
  unfold Lib.hasSuffix
  cases hs : List.isSuffixOf [10] s.data.toList with
  | false => rfl
  | true =>
    rw [List.isSuffixOf_iff_suffix] at hs
    exact absurd (hs.subset (by simp)) hm
theorem parse_hit {x : Inst} {k : Nat} {s : ByteArray} {i : Nat} (h : Lib.indexByte s.data.toList 10 = i) : parseFrom x k (pieces 10 (bytesOf s)) = if (lineP x (bytesOf ((headL s).extract 0 i))).1 = 0 then parseFrom (lineP x (bytesOf ((headL s).extract 0 i))).2 (k + 1) (pieces 10 (bytesOf (tailL s))) else ⟨(lineP x (bytesOf ((headL s).extract 0 i))).1, k + 1, noInst⟩ := by
  obtain ⟨_, _, h3, h4, _⟩ := cut_hit h
  rw [h3, h4]
  rw [show pieces 10 (bytesOf s) = ofU (s.data.toList.take i) :: pieces 10 (ofU (s.data.toList.drop (i + 1))) from pieces_hit (c := 10) h]
  exact parseFrom_cons (fun e => by have := pieces_pos 10 (ofU (s.data.toList.drop (i + 1))); rw [e] at this; simp at this)
theorem parse_miss {x : Inst} {k : Nat} {s : ByteArray} (hs : s.size ≠ 0) (h : Lib.indexByte s.data.toList 10 = -1) : parseFrom x k (pieces 10 (bytesOf s)) = ⟨2, k + 1, noInst⟩ := by
  rw [show pieces 10 (bytesOf s) = [bytesOf s] from pieces_miss (c := 10) h]
  show (if (bytesOf s).length = 0 then _ else _) = _
  rw [if_neg (by rw [bytesOf_len]; exact hs)]
theorem parse_end {x : Inst} {k : Nat} {s : ByteArray} (hs : s.size = 0) : parseFrom x k (pieces 10 (bytesOf s)) = ⟨0, 0, x⟩ := by
  have : bytesOf s = [] := List.eq_nil_of_length_eq_zero (by rw [bytesOf_len, hs])
  rw [this]; rfl
end Go.Proofs.YtbccaabaplbmhaaGreatDoor.L1
namespace Go.Proofs.YtbccaabaplbmhaaGreatDoor.L1
open Go.RowKit Go.Proofs.YtbccaabaplbmhaaGreatDoorW.PrintWords Go.Proofs.YtbccaabaplbmhaaGreatDoor.B
set_option linter.unusedVariables false
set_option linter.unusedSimpArgs false
attribute [local go_sem] Oper.semAt_some
/-- Behind k lines, s left: what the variables of the program hold. -/
def Inv (w : World) (bx : Nat) (bs : List Int) (k : Nat) (s : ByteArray) (W : World) : Prop := ∃ (x : Inst) (A0 A1 A2 : Option Addr) (c0 c1 c2 : Nat),
  (parseP bs = parseFrom x k (pieces 10 (bytesOf s)) ∧ x.tiny ∧ k + s.size ≤ bs.length) ∧
  W.heap[w.heap.size]? = some (.cells #[.int .i64 0, .int .i64 0, .slice none 0 0, .slice none 0 0, .slice none 0 0] 32 (0, 0)) ∧
  W.heap[w.heap.size + 1]? = some (.cells #[.slice A0 x.vs.length c0, .slice A1 x.qs.length c1, .slice A2 x.rs.length c2] 27 (0, 0)) ∧
  W.heap[w.heap.size + 1 + 1]? = some (.cells #[.int .i64 (kindNo x)] 3 (0, 0)) ∧
  W.heap[w.heap.size + 1 + 1 + 1]? = some (.cells #[.int .i64 (k : Int)] 2 (0, 0)) ∧
  kVeh.R 45 W w.heap.size (fun k => k ≠ bx) (.slice A0 x.vs.length c0) x.vs ∧ kReq.R 48 W w.heap.size (fun k => k ≠ bx) (.slice A1 x.qs.length c1) x.qs ∧ kRoad.R 51 W w.heap.size (fun k => k ≠ bx) (.slice A2 x.rs.length c2) x.rs ∧
  Below w.heap.size w W
/-- A round has found what is wrong. -/
def Bad (w : World) (bs : List Int) (W : World) : Prop := ∃ e l : Int, parseP bs = ⟨e, l, noInst⟩ ∧ W.heap[w.heap.size]? = some (.cells #[.int .i64 e, .int .i64 l, .slice none 0 0, .slice none 0 0, .slice none 0 0] 32 (0, 0)) ∧ Below w.heap.size w W
theorem R_offP {α : Type} {d : Kd α} {e base bx b0 : Nat} {W W' : World} {v : Value} {xs : List α} (h : d.R e W base (fun k => k ≠ bx) v xs) (ho : Off bx b0 W W') : d.R e W' base (fun k => k ≠ bx) v xs :=
  Kd.R_mono (Kd.R_step (Kd.R_bound h) (fun k hk hl => by
    obtain ⟨hn, _, _, q, hq, cells, hc⟩ := hk
    rw [hc]
    exact ho.same k cells q (0, 0) hc hn)) fun _ hk => hk.1
theorem R_sep {α : Type} {d : Kd α} {e base bx : Nat} {ok : Nat → Prop} {W : World} {v : Value} {xs : List α} {s : ByteArray} (h : d.R e W base ok v xs) (hb : SBox W bx s) (hne : 9 ∉ e :: d.E) : d.R e W base (fun k => k ≠ bx) v xs :=
  Kd.R_mono (Kd.R_bound h) fun k hk e' => by
    obtain ⟨_, _, _, q, hq, cells, hc⟩ := hk
    unfold SBox at hb
    rw [e', hb] at hc
    cases hc
    exact hne hq
theorem R_mark {α : Type} {d : Kd α} {e base D : Nat} {ok : Nat → Prop} {W : World} {v : Value} {xs : List α} {o o' : Obj} (h : d.R e W base ok v xs) (hD : W.heap[D]? = some o) (ho : o.isCells = false) : d.R e (W.putObj D o') base ok v xs :=
  Kd.R_mono (Kd.R_step (Kd.R_bound h) (fun k hk hl => by
    obtain ⟨_, _, _, q, hq, cells, hc⟩ := hk
    exact World.putObj_heap_other (fun e => by rw [e, hD] at hc; cases hc; cases ho))) fun _ hk => hk.1
theorem Off.cells {bx b0 k : Nat} {W W' : World} {cs : Array Value} {T : TypeId} (ho : Off bx b0 W W') (h : W.heap[k]? = some (.cells cs T (0, 0))) (hn : k ≠ bx) : W'.heap[k]? = some (.cells cs T (0, 0)) := ho.same k cs T (0, 0) h hn
theorem Inv.off {w : World} {bx b0 : Nat} {bs : List Int} {k : Nat} {s : ByteArray} {W W' : World} (hx : w.heap.size + 1 + 1 + 1 < bx) (hb0 : w.heap.size ≤ b0) (h : Inv w bx bs k s W) (ho : Off bx b0 W W') : Inv w bx bs k s W' := by
  obtain ⟨x, A0, A1, A2, c0, c1, c2, hP, m0, m1, m2, m3, r0, r1, r2, hb⟩ := h
  exact ⟨x, A0, A1, A2, c0, c1, c2, hP, ho.cells m0 (by omega), ho.cells m1 (by omega), ho.cells m2 (by omega), ho.cells m3 (by omega), R_offP r0 ho, R_offP r1 ho, R_offP r2 ho, ho.below w hb0 hb⟩
theorem Bad.off {w : World} {bx b0 : Nat} {bs : List Int} {W W' : World} (hx : w.heap.size < bx) (hb0 : w.heap.size ≤ b0) (h : Bad w bs W) (ho : Off bx b0 W W') : Bad w bs W' := by
  obtain ⟨e, l, hP, m0, hb⟩ := h
  exact ⟨e, l, hP, ho.cells m0 (by omega), ho.below w hb0 hb⟩
theorem set5 {W : World} {g : Nat} {T : TypeId} {a b c d e : Value} (h : W.heap[g]? = some (.cells #[a, b, c, d, e] T (0, 0))) (v0 v1 v2 v3 v4 : Value) :
    (((((W.setCell ⟨g, 0, none⟩ v0).setCell ⟨g, 1, none⟩ v1).setCell ⟨g, 2, none⟩ v2).setCell ⟨g, 3, none⟩ v3).setCell ⟨g, 4, none⟩ v4).heap[g]? = some (.cells #[v0, v1, v2, v3, v4] T (0, 0)) ∧
    Tch (fun k => k = g) W (((((W.setCell ⟨g, 0, none⟩ v0).setCell ⟨g, 1, none⟩ v1).setCell ⟨g, 2, none⟩ v2).setCell ⟨g, 3, none⟩ v3).setCell ⟨g, 4, none⟩ v4) :=
  ⟨blk_set (blk_set (blk_set (blk_set (blk_set h 0 v0) 1 v1) 2 v2) 3 v3) 4 v4, ((((Tch.set (S := fun k => k = g) rfl).trans (Tch.set (S := fun k => k = g) rfl)).trans (Tch.set (S := fun k => k = g) rfl)).trans (Tch.set (S := fun k => k = g) rfl)).trans (Tch.set (S := fun k => k = g) rfl)⟩
theorem leaves_res {D g : Nat} {W : World} {tmps : Array Value} {cs : Array Value} {R : Ending → World → Prop} (hK : W.heap[D]? = some (.deferred (some []))) (hp : tmps.getD 2 undef = .pointer (some ⟨g, 0, none⟩)) (hg : W.heap[g]? = some (.cells cs 32 (0, 0))) (hs : cs.size = 5)
    (h : R (.returned (.agg cs)) (W.putObj D (.deferred none))) : LeavesInM Fence.wide 6 Tryz.prog Tryz.f7 tmps R [{ target := .collected D, args := #[] }] .returning W := by
  refine ⟨by simp, .inl ⟨_, _, rfl, run_takeDeferred hK, ?_⟩⟩
  have hne : g ≠ D := fun e => by rw [e, hK] at hg; cases hg
  exact ⟨_, results_cell (cs := cs) Tryz.results7 hp ((World.putObj_heap_other hne).trans hg) Tryz.underlying32 rfl (by rw [hs]; kernel_rfl), h⟩
theorem KR.of_tch {S : Nat → Prop} {W W' : World} (hT : Tch S W W') (hS : ∀ k, S k → ∀ o, W.heap[k]? = some o → o.isCells = true) : KR W W' := fun k o hk ho => (hT.same k (blk_lt' hk) (fun h => by rw [hS k h o hk] at ho; cases ho)).trans hk
theorem KR.trans {W W1 W2 : World} (h : KR W W1) (h' : KR W1 W2) : KR W W2 := fun k o hk ho => h' k o (h k o hk ho) ho
end Go.Proofs.YtbccaabaplbmhaaGreatDoor.L1
