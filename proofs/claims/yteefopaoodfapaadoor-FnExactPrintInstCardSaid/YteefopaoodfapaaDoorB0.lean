/- Small words for the walks: counted conjunctions, bounds as Bool. -/
import Derived.Test.YteefopaoodfapaaDoorProg
import Derived.Below
import Derived.Deep.Draws
import Derived.Deep.AppendLies
import Derived.Maps.AppendAt
import Derived.OwnWalk
import Derived.Laws.BytesArg
import Derived.Laws.MakeOwn
import Derived.Laws.OwnMore
import Derived.Deep.OwnRows
import Derived.Tactics
import Derived.Lib.ConvBytes
import Derived.Lib.Hide
import Derived.Laws.Slices
import Derived.WalkKit
import Derived.KernelRfl
import Derived.RowKit3
import Derived.Deep.LoopGhost
import Derived.Deep.QuietTactic
import Derived.BigQuiet
import Derived.WideLaws
import Derived.Deep.DeepCutAuto
import Derived.Deep.CutBlock
import Derived.Deep.RegionHeld3
import Derived.Laws.Rows
import Derived.Lib.AppendStr
import Derived.ArgAppend
import Derived.Laws.IdiomCopy
import Derived.OrdersHeld
import Derived.Laws.BitsLemmas
import Derived.RowKit
import Derived.StillTailTactics
import Derived.Deep.RegionWith
import Derived.Test.YteefopaoodfapaaDoorWWords
import Derived.Test.YteefopaoodfapaaDoorWLast
namespace Go.Proofs.YteefopaoodfapaaDoor.B
open Go.RowKit Go.Proofs.YteefopaoodfapaaDoorW.PrintWords

def inB (x lo hi : Int) : Bool := decide (lo ≤ x) && decide (x ≤ hi)
theorem inB_eq (x lo hi : Int) : inB x lo hi = decide (lo ≤ x ∧ x ≤ hi) := by simp [inB]

def allI (n : Nat) (f : Nat → Bool) : Bool := (List.range n).all f
theorem allI_zero (f : Nat → Bool) : allI 0 f = true := rfl
theorem allI_succ (n : Nat) (f : Nat → Bool) : allI (n + 1) f = (allI n f && f n) := by simp [allI, List.range_succ]
theorem allI_iff {n : Nat} {f : Nat → Bool} : allI n f = true ↔ ∀ k, k < n → f k = true := by simp [allI]
theorem allI_false {n k : Nat} {f : Nat → Bool} (hk : k < n) (h : f k = false) : allI n f = false := by
  cases he : allI n f with
  | false => rfl
  | true => rw [allI_iff.1 he k hk] at h; cases h
theorem allI_congr {n : Nat} {f g : Nat → Bool} (h : ∀ k, k < n → f k = g k) : allI n f = allI n g := by
  rw [Bool.eq_iff_iff, allI_iff, allI_iff]
  exact ⟨fun a k hk => h k hk ▸ a k hk, fun a k hk => (h k hk).symm ▸ a k hk⟩

/-- Behind a call that makes memory: what stood below reads as before. -/
theorem bcell {W w1 : World} (hb : Below W.heap.size W w1) : (∀ b o, b < W.heap.size → w1.cell? ⟨b, o, none⟩ = W.cell? ⟨b, o, none⟩) ∧ (∀ b o, b < W.heap.size → w1.frozen? ⟨b, o, none⟩ = W.frozen? ⟨b, o, none⟩) :=
  ⟨fun b o h => hb.cell (p := ⟨b, o, none⟩) h, fun b o h => hb.frozen (p := ⟨b, o, none⟩) h⟩

/-- The first k places hold what xs holds there. -/
def Filled {α : Type} (xs : List α) (k : Nat) (ys : List α) : Prop := ys.length = xs.length ∧ ∀ j, j < k → ys[j]? = xs[j]?
theorem Filled.zero {α : Type} (xs : List α) (z : α) : Filled xs 0 (List.replicate xs.length z) := ⟨by simp, fun j hj => by omega⟩
theorem Filled.step {α : Type} {xs ys : List α} {k : Nat} (h : Filled xs k ys) (hk : k < xs.length) (z : α) : Filled xs (k + 1) (ys.set k (xs.getD k z)) := by
  refine ⟨by simp [h.1], fun j hj => ?_⟩
  by_cases e : j = k
  · subst e
    rw [List.getElem?_set_self (by rw [h.1]; exact hk)]
    simp [List.getD_eq_getElem?_getD, List.getElem?_eq_getElem hk]
  · rw [List.getElem?_set_ne (Ne.symm e)]
    exact h.2 j (by omega)
theorem Filled.done {α : Type} {xs ys : List α} {k : Nat} (h : Filled xs k ys) (hk : xs.length ≤ k) : ys = xs := by
  apply List.ext_getElem?
  intro j
  by_cases hj : j < k
  · exact h.2 j hj
  · rw [List.getElem?_eq_none (by rw [h.1]; omega), List.getElem?_eq_none (by omega)]
/-- A world written out field by field reads as the world whose heap it holds. -/
theorem mk_cell (W : World) (t : Nat → Question → Nat) (d : Nat) (o : Os) (u : Array (Nat × ByteArray)) (a : Addr) : ({ heap := W.heap, tape := t, drawn := d, os := o, output := u } : World).cell? a = W.cell? a := rfl
theorem mk_frozen (W : World) (t : Nat → Question → Nat) (d : Nat) (o : Os) (u : Array (Nat × ByteArray)) (a : Addr) : ({ heap := W.heap, tape := t, drawn := d, os := o, output := u } : World).frozen? a = W.frozen? a := rfl
theorem al_new (W : World) (o : Obj) : (W.alloc o).heap[W.heap.size]? = some o := heap_alloc_new W o
theorem al_old {W : World} {o : Obj} {i : Nat} (h : i < W.heap.size) : (W.alloc o).heap[i]? = W.heap[i]? := by
  have e : (W.alloc o).heap = W.heap.push o := rfl
  rw [e, Array.getElem?_push, if_neg (Nat.ne_of_lt h)]
theorem al_size (W : World) (o : Obj) : (W.alloc o).heap.size = W.heap.size + 1 := by
  have e : (W.alloc o).heap = W.heap.push o := rfl
  rw [e, Array.size_push]
/-- A block known whole reads as itself behind a call that makes memory. -/
theorem lay {W w1 : World} (hb : Below W.heap.size W w1) {g : Nat} {cs : Array Value} {t : TypeId} (h : W.heap[g]? = some (.cells cs t (0, 0))) : (∀ o, w1.cell? ⟨g, o, none⟩ = cs[o]?) ∧ ∀ o, w1.frozen? ⟨g, o, none⟩ = false :=
  ⟨fun o => blk_cell (blk_below h hb) o, fun o => blk_frozen (blk_below h hb) o⟩
theorem bel_box {w W : World} (h : Below w.heap.size w W) (o : Obj) : Below w.heap.size w (W.alloc o) := below_alloc h o
theorem blk_box {W : World} {g : Nat} {b : Obj} (h : W.heap[g]? = some b) (o : Obj) : (W.alloc o).heap[g]? = some b := (al_old (blk_lt h)).trans h
theorem bel_call {w W w1 : World} (h : Below w.heap.size w W) (hb : Below W.heap.size W w1) : Below w.heap.size w w1 := below_then h h.size hb
theorem bel_set {w W : World} (h : Below w.heap.size w W) {b o : Nat} (hb : w.heap.size ≤ b) (v : Value) : Below w.heap.size w (W.setCell ⟨b, o, none⟩ v) := h.setCell hb v

theorem keepC1 {w W w1 : World} {a0 : Addr} {v0 : Value} (h : W.cell? a0 = some v0 ∧ Below w.heap.size w W) (hb : Below W.heap.size W w1) : w1.cell? a0 = some v0 ∧ Below w.heap.size w w1 := ⟨pw_cell_below hb h.1, bel_call h.2 hb⟩
theorem keepC2 {w W w1 : World} {a0 a1 : Addr} {v0 v1 : Value} (h : W.cell? a0 = some v0 ∧ W.cell? a1 = some v1 ∧ Below w.heap.size w W) (hb : Below W.heap.size W w1) : w1.cell? a0 = some v0 ∧ w1.cell? a1 = some v1 ∧ Below w.heap.size w w1 := ⟨pw_cell_below hb h.1, pw_cell_below hb h.2.1, bel_call h.2.2 hb⟩
theorem keepC3 {w W w1 : World} {a0 a1 a2 : Addr} {v0 v1 v2 : Value} (h : W.cell? a0 = some v0 ∧ W.cell? a1 = some v1 ∧ W.cell? a2 = some v2 ∧ Below w.heap.size w W) (hb : Below W.heap.size W w1) : w1.cell? a0 = some v0 ∧ w1.cell? a1 = some v1 ∧ w1.cell? a2 = some v2 ∧ Below w.heap.size w w1 := ⟨pw_cell_below hb h.1, pw_cell_below hb h.2.1, pw_cell_below hb h.2.2.1, bel_call h.2.2.2 hb⟩
theorem keepC4 {w W w1 : World} {a0 a1 a2 a3 : Addr} {v0 v1 v2 v3 : Value} (h : W.cell? a0 = some v0 ∧ W.cell? a1 = some v1 ∧ W.cell? a2 = some v2 ∧ W.cell? a3 = some v3 ∧ Below w.heap.size w W) (hb : Below W.heap.size W w1) : w1.cell? a0 = some v0 ∧ w1.cell? a1 = some v1 ∧ w1.cell? a2 = some v2 ∧ w1.cell? a3 = some v3 ∧ Below w.heap.size w w1 := ⟨pw_cell_below hb h.1, pw_cell_below hb h.2.1, pw_cell_below hb h.2.2.1, pw_cell_below hb h.2.2.2.1, bel_call h.2.2.2.2 hb⟩
theorem keepC5 {w W w1 : World} {a0 a1 a2 a3 a4 : Addr} {v0 v1 v2 v3 v4 : Value} (h : W.cell? a0 = some v0 ∧ W.cell? a1 = some v1 ∧ W.cell? a2 = some v2 ∧ W.cell? a3 = some v3 ∧ W.cell? a4 = some v4 ∧ Below w.heap.size w W) (hb : Below W.heap.size W w1) : w1.cell? a0 = some v0 ∧ w1.cell? a1 = some v1 ∧ w1.cell? a2 = some v2 ∧ w1.cell? a3 = some v3 ∧ w1.cell? a4 = some v4 ∧ Below w.heap.size w w1 := ⟨pw_cell_below hb h.1, pw_cell_below hb h.2.1, pw_cell_below hb h.2.2.1, pw_cell_below hb h.2.2.2.1, pw_cell_below hb h.2.2.2.2.1, bel_call h.2.2.2.2.2 hb⟩
theorem keepC6 {w W w1 : World} {a0 a1 a2 a3 a4 a5 : Addr} {v0 v1 v2 v3 v4 v5 : Value} (h : W.cell? a0 = some v0 ∧ W.cell? a1 = some v1 ∧ W.cell? a2 = some v2 ∧ W.cell? a3 = some v3 ∧ W.cell? a4 = some v4 ∧ W.cell? a5 = some v5 ∧ Below w.heap.size w W) (hb : Below W.heap.size W w1) : w1.cell? a0 = some v0 ∧ w1.cell? a1 = some v1 ∧ w1.cell? a2 = some v2 ∧ w1.cell? a3 = some v3 ∧ w1.cell? a4 = some v4 ∧ w1.cell? a5 = some v5 ∧ Below w.heap.size w w1 := ⟨pw_cell_below hb h.1, pw_cell_below hb h.2.1, pw_cell_below hb h.2.2.1, pw_cell_below hb h.2.2.2.1, pw_cell_below hb h.2.2.2.2.1, pw_cell_below hb h.2.2.2.2.2.1, bel_call h.2.2.2.2.2.2 hb⟩
theorem keepC7 {w W w1 : World} {a0 a1 a2 a3 a4 a5 a6 : Addr} {v0 v1 v2 v3 v4 v5 v6 : Value} (h : W.cell? a0 = some v0 ∧ W.cell? a1 = some v1 ∧ W.cell? a2 = some v2 ∧ W.cell? a3 = some v3 ∧ W.cell? a4 = some v4 ∧ W.cell? a5 = some v5 ∧ W.cell? a6 = some v6 ∧ Below w.heap.size w W) (hb : Below W.heap.size W w1) : w1.cell? a0 = some v0 ∧ w1.cell? a1 = some v1 ∧ w1.cell? a2 = some v2 ∧ w1.cell? a3 = some v3 ∧ w1.cell? a4 = some v4 ∧ w1.cell? a5 = some v5 ∧ w1.cell? a6 = some v6 ∧ Below w.heap.size w w1 := ⟨pw_cell_below hb h.1, pw_cell_below hb h.2.1, pw_cell_below hb h.2.2.1, pw_cell_below hb h.2.2.2.1, pw_cell_below hb h.2.2.2.2.1, pw_cell_below hb h.2.2.2.2.2.1, pw_cell_below hb h.2.2.2.2.2.2.1, bel_call h.2.2.2.2.2.2.2 hb⟩
theorem keepC8 {w W w1 : World} {a0 a1 a2 a3 a4 a5 a6 a7 : Addr} {v0 v1 v2 v3 v4 v5 v6 v7 : Value} (h : W.cell? a0 = some v0 ∧ W.cell? a1 = some v1 ∧ W.cell? a2 = some v2 ∧ W.cell? a3 = some v3 ∧ W.cell? a4 = some v4 ∧ W.cell? a5 = some v5 ∧ W.cell? a6 = some v6 ∧ W.cell? a7 = some v7 ∧ Below w.heap.size w W) (hb : Below W.heap.size W w1) : w1.cell? a0 = some v0 ∧ w1.cell? a1 = some v1 ∧ w1.cell? a2 = some v2 ∧ w1.cell? a3 = some v3 ∧ w1.cell? a4 = some v4 ∧ w1.cell? a5 = some v5 ∧ w1.cell? a6 = some v6 ∧ w1.cell? a7 = some v7 ∧ Below w.heap.size w w1 := ⟨pw_cell_below hb h.1, pw_cell_below hb h.2.1, pw_cell_below hb h.2.2.1, pw_cell_below hb h.2.2.2.1, pw_cell_below hb h.2.2.2.2.1, pw_cell_below hb h.2.2.2.2.2.1, pw_cell_below hb h.2.2.2.2.2.2.1, pw_cell_below hb h.2.2.2.2.2.2.2.1, bel_call h.2.2.2.2.2.2.2.2 hb⟩
theorem keepC9 {w W w1 : World} {a0 a1 a2 a3 a4 a5 a6 a7 a8 : Addr} {v0 v1 v2 v3 v4 v5 v6 v7 v8 : Value} (h : W.cell? a0 = some v0 ∧ W.cell? a1 = some v1 ∧ W.cell? a2 = some v2 ∧ W.cell? a3 = some v3 ∧ W.cell? a4 = some v4 ∧ W.cell? a5 = some v5 ∧ W.cell? a6 = some v6 ∧ W.cell? a7 = some v7 ∧ W.cell? a8 = some v8 ∧ Below w.heap.size w W) (hb : Below W.heap.size W w1) : w1.cell? a0 = some v0 ∧ w1.cell? a1 = some v1 ∧ w1.cell? a2 = some v2 ∧ w1.cell? a3 = some v3 ∧ w1.cell? a4 = some v4 ∧ w1.cell? a5 = some v5 ∧ w1.cell? a6 = some v6 ∧ w1.cell? a7 = some v7 ∧ w1.cell? a8 = some v8 ∧ Below w.heap.size w w1 := ⟨pw_cell_below hb h.1, pw_cell_below hb h.2.1, pw_cell_below hb h.2.2.1, pw_cell_below hb h.2.2.2.1, pw_cell_below hb h.2.2.2.2.1, pw_cell_below hb h.2.2.2.2.2.1, pw_cell_below hb h.2.2.2.2.2.2.1, pw_cell_below hb h.2.2.2.2.2.2.2.1, pw_cell_below hb h.2.2.2.2.2.2.2.2.1, bel_call h.2.2.2.2.2.2.2.2.2 hb⟩
theorem keepC10 {w W w1 : World} {a0 a1 a2 a3 a4 a5 a6 a7 a8 a9 : Addr} {v0 v1 v2 v3 v4 v5 v6 v7 v8 v9 : Value} (h : W.cell? a0 = some v0 ∧ W.cell? a1 = some v1 ∧ W.cell? a2 = some v2 ∧ W.cell? a3 = some v3 ∧ W.cell? a4 = some v4 ∧ W.cell? a5 = some v5 ∧ W.cell? a6 = some v6 ∧ W.cell? a7 = some v7 ∧ W.cell? a8 = some v8 ∧ W.cell? a9 = some v9 ∧ Below w.heap.size w W) (hb : Below W.heap.size W w1) : w1.cell? a0 = some v0 ∧ w1.cell? a1 = some v1 ∧ w1.cell? a2 = some v2 ∧ w1.cell? a3 = some v3 ∧ w1.cell? a4 = some v4 ∧ w1.cell? a5 = some v5 ∧ w1.cell? a6 = some v6 ∧ w1.cell? a7 = some v7 ∧ w1.cell? a8 = some v8 ∧ w1.cell? a9 = some v9 ∧ Below w.heap.size w w1 := ⟨pw_cell_below hb h.1, pw_cell_below hb h.2.1, pw_cell_below hb h.2.2.1, pw_cell_below hb h.2.2.2.1, pw_cell_below hb h.2.2.2.2.1, pw_cell_below hb h.2.2.2.2.2.1, pw_cell_below hb h.2.2.2.2.2.2.1, pw_cell_below hb h.2.2.2.2.2.2.2.1, pw_cell_below hb h.2.2.2.2.2.2.2.2.1, pw_cell_below hb h.2.2.2.2.2.2.2.2.2.1, bel_call h.2.2.2.2.2.2.2.2.2.2 hb⟩
theorem keepC11 {w W w1 : World} {a0 a1 a2 a3 a4 a5 a6 a7 a8 a9 a10 : Addr} {v0 v1 v2 v3 v4 v5 v6 v7 v8 v9 v10 : Value} (h : W.cell? a0 = some v0 ∧ W.cell? a1 = some v1 ∧ W.cell? a2 = some v2 ∧ W.cell? a3 = some v3 ∧ W.cell? a4 = some v4 ∧ W.cell? a5 = some v5 ∧ W.cell? a6 = some v6 ∧ W.cell? a7 = some v7 ∧ W.cell? a8 = some v8 ∧ W.cell? a9 = some v9 ∧ W.cell? a10 = some v10 ∧ Below w.heap.size w W) (hb : Below W.heap.size W w1) : w1.cell? a0 = some v0 ∧ w1.cell? a1 = some v1 ∧ w1.cell? a2 = some v2 ∧ w1.cell? a3 = some v3 ∧ w1.cell? a4 = some v4 ∧ w1.cell? a5 = some v5 ∧ w1.cell? a6 = some v6 ∧ w1.cell? a7 = some v7 ∧ w1.cell? a8 = some v8 ∧ w1.cell? a9 = some v9 ∧ w1.cell? a10 = some v10 ∧ Below w.heap.size w w1 := ⟨pw_cell_below hb h.1, pw_cell_below hb h.2.1, pw_cell_below hb h.2.2.1, pw_cell_below hb h.2.2.2.1, pw_cell_below hb h.2.2.2.2.1, pw_cell_below hb h.2.2.2.2.2.1, pw_cell_below hb h.2.2.2.2.2.2.1, pw_cell_below hb h.2.2.2.2.2.2.2.1, pw_cell_below hb h.2.2.2.2.2.2.2.2.1, pw_cell_below hb h.2.2.2.2.2.2.2.2.2.1, pw_cell_below hb h.2.2.2.2.2.2.2.2.2.2.1, bel_call h.2.2.2.2.2.2.2.2.2.2.2 hb⟩
theorem keepC12 {w W w1 : World} {a0 a1 a2 a3 a4 a5 a6 a7 a8 a9 a10 a11 : Addr} {v0 v1 v2 v3 v4 v5 v6 v7 v8 v9 v10 v11 : Value} (h : W.cell? a0 = some v0 ∧ W.cell? a1 = some v1 ∧ W.cell? a2 = some v2 ∧ W.cell? a3 = some v3 ∧ W.cell? a4 = some v4 ∧ W.cell? a5 = some v5 ∧ W.cell? a6 = some v6 ∧ W.cell? a7 = some v7 ∧ W.cell? a8 = some v8 ∧ W.cell? a9 = some v9 ∧ W.cell? a10 = some v10 ∧ W.cell? a11 = some v11 ∧ Below w.heap.size w W) (hb : Below W.heap.size W w1) : w1.cell? a0 = some v0 ∧ w1.cell? a1 = some v1 ∧ w1.cell? a2 = some v2 ∧ w1.cell? a3 = some v3 ∧ w1.cell? a4 = some v4 ∧ w1.cell? a5 = some v5 ∧ w1.cell? a6 = some v6 ∧ w1.cell? a7 = some v7 ∧ w1.cell? a8 = some v8 ∧ w1.cell? a9 = some v9 ∧ w1.cell? a10 = some v10 ∧ w1.cell? a11 = some v11 ∧ Below w.heap.size w w1 := ⟨pw_cell_below hb h.1, pw_cell_below hb h.2.1, pw_cell_below hb h.2.2.1, pw_cell_below hb h.2.2.2.1, pw_cell_below hb h.2.2.2.2.1, pw_cell_below hb h.2.2.2.2.2.1, pw_cell_below hb h.2.2.2.2.2.2.1, pw_cell_below hb h.2.2.2.2.2.2.2.1, pw_cell_below hb h.2.2.2.2.2.2.2.2.1, pw_cell_below hb h.2.2.2.2.2.2.2.2.2.1, pw_cell_below hb h.2.2.2.2.2.2.2.2.2.2.1, pw_cell_below hb h.2.2.2.2.2.2.2.2.2.2.2.1, bel_call h.2.2.2.2.2.2.2.2.2.2.2.2 hb⟩
namespace Kd
open Go.Proofs.YteefopaoodfapaaDoorW.PrintWords.Kd
/-- A kind whose cells hang on no memory. -/
def flat {α : Type} (n : Nat) (enc : α → List Value) (hn : ∀ x, (enc x).length = n) (h1 : ∀ x, ∀ u ∈ enc x, u.oneCell' = true) : Kd α where
  sz := n
  E := []
  K := fun _ x cs => cs = enc x
  M := fun _ _ _ x cs => cs = enc x
  K_len := fun h => by rw [h]; exact hn _
  K_one := fun h u hu => by rw [h] at hu; exact h1 _ u hu
  K_below := fun _ h => h
  K_of_M := fun h => h
  M_mono := fun _ h => h
  M_bound := fun h => h
  M_move := fun _ h => h
  M_lower := fun _ h => h
theorem flat_at {α : Type} {n : Nat} {enc : α → List Value} {hn : ∀ x, (enc x).length = n} {h1 : ∀ x, ∀ u ∈ enc x, u.oneCell' = true} {w : World} {A : Option Addr} {m : Nat} {xs : List α}
    (h : (flat n enc hn h1).C w A m xs) (z : α) (k : Nat) (hk : k < m) : ∃ ad, A = some ad ∧ ∀ j u, (enc (xs.getD k z))[j]? = some u → w.cell? (ad.add (k * n + j)) = some u := by
  obtain ⟨ad, c, e, _, hc, hr⟩ := C_get h z (k : Int) (by omega) (by omega)
  refine ⟨ad, e, fun j u hu => ?_⟩
  have := hr j u (by rw [hc]; simpa using hu)
  simp only [Int.toNat_natCast] at this
  exact this
/-- What a call has just made lies in the blocks that it has made. -/
theorem fresh {α : Type} {d : Kd α} {e b base : Nat} {w1 : World} {ok : Nat → Prop} {v : Value} {xs : List α} (h : d.R e w1 b ok v xs) (hb : base ≤ b) : d.R e w1 base (fun k => b ≤ k ∧ k < w1.heap.size) v xs :=
  R_lower (R_mono (R_bound h) fun _ hk => ⟨hk.2.1, hk.2.2.1⟩) hb
theorem flat_cells {α : Type} {n : Nat} {enc : α → List Value} {hn : ∀ x, (enc x).length = n} {h1 : ∀ x, ∀ u ∈ enc x, u.oneCell' = true} {d : Kd α} (hd : d = flat n enc hn h1) {w : World} {A : Option Addr} {m : Nat} {xs : List α}
    (h : d.C w A m xs) (z : α) (k : Nat) (hk : k < m) : ∃ ad, A = some ad ∧ (∀ u, (enc (xs.getD k z))[0]? = some u → w.cell? (ad.add (k * n)) = some u) ∧ ∀ j u, (enc (xs.getD k z))[j + 1]? = some u → w.cell? ⟨(ad.add (k * n)).block, (ad.add (k * n)).off + (j + 1), none⟩ = some u := by
  subst hd
  obtain ⟨ad, e, hc⟩ := flat_at h z k hk
  exact ⟨ad, e, fun u hu => hc 0 u hu, fun j u hu => by rw [← add_field ad _ _ (Nat.succ_pos j)]; exact hc (j + 1) u hu⟩
section
variable {P : Program} {ops : Array Oper} {rest : List Oper} {o : Oper} {a : Act} {Q : Exit → Act → World → Prop} {α : Type} {n : Nat} {enc : α → List Value} {hn : ∀ x, (enc x).length = n} {h1 : ∀ x, ∀ u ∈ enc x, u.oneCell' = true}
/-- make([]T, m). -/
theorem flat_make (d : Kd α) (hdd : d = flat n enc hn h1) {w0 W : World} (N : Tmp) (hd : o.dst = some N) (hgd : o.guard = none) (t : TypeId) (x y : Operand) (ho : o.op = .makeSlice t x y) (m : Nat) (hx : a.eval x = .int .i64 m) (hy : a.eval y = .int .i64 m)
    (e : Nat) (ht : P.underlying t = some (.slice e)) (z0 : α) (bytes : Nat) (hinfo : (P.info? e).map (fun i => (i.zero.map (·.cells.toList), i.size, i.bytes)) = some (some (enc z0), n, bytes)) (hs0 : 0 < n) (hb0 : 0 < bytes)
    (hl : m * bytes ≤ 281474976710656) (HB : Below w0.heap.size w0 W)
    (h : ∀ v1 w1, d.R e w1 w0.heap.size (fun _ => True) v1 (List.replicate m z0) → Below w0.heap.size w0 w1 → W.grownBy w1 none → wpList P ops Q rest (a.put (some N) v1) w1) : wpList P ops Q (o :: rest) a W := by
  subst hdd
  obtain ⟨i, hi, hz⟩ := Option.map_eq_some_iff.1 hinfo
  simp only [Prod.mk.injEq] at hz
  obtain ⟨hz0, hz1, hz2⟩ := hz
  obtain ⟨z, hz3, hz4⟩ := Option.map_eq_some_iff.1 hz0
  refine R_make (flat n enc hn h1) w0.heap.size e hgd hd t x y ho (m : Int) hx hy ht z bytes (by rw [hi]; simp only [Option.map_some, hz3, hz1, hz2]; rfl) (by rw [← Array.length_toList, hz4]; exact hn z0) hs0 hb0 z0 (ok := fun _ => True) (okp := fun _ => True) (by rw [hz4]; rfl) (fun _ _ => trivial) trivial (by omega) (by simpa using hl) HB HB.size ?_
  intro v1 w1 hr hb hg _
  rw [hd]
  exact h v1 w1 (by simpa using hr) hb hg
/-- out[k] = y, a whole element. -/
theorem flat_store (d : Kd α) (hdd : d = flat n enc hn h1) {w0 W : World} (hN : o.dst = none) (hgd : o.guard = none) (t : TypeId) (p x : Operand) (ho : o.op = .store t p x) {e g m cap o' : Nat} (k : Nat) {xs : List α} (y : α)
    (haddr : a.eval p = .pointer (some ⟨g, o', none⟩)) (hoff : o' = k * n) (hx : (a.eval x).cells.toList = enc y) (ht : (P.info? t).map (·.size) = some n)
    (HO : d.R e W w0.heap.size (fun _ => True) (.slice (some ⟨g, 0, none⟩) m cap) xs) (hk : k < m) (HB : Below w0.heap.size w0 W)
    (h : ∀ w1, d.R e w1 w0.heap.size (fun _ => True) (.slice (some ⟨g, 0, none⟩) m cap) (xs.set k y) → Below w0.heap.size w0 w1 → W.grownBy w1 (some g) → wpList P ops Q rest a w1) : wpList P ops Q (o :: rest) a W := by
  subst hdd
  have hm : m = xs.length := (R_reads' HO).1
  have hz : 0 < xs.length := by omega
  obtain ⟨c, hcl, hcM, hcc, _⟩ := R_elem HO (xs[0]'hz) (k : Int) (by omega) (by omega)
  have hsz : (flat n enc hn h1).sz = n := rfl
  refine R_store (flat n enc hn h1) w0.heap.size hN hgd t p x ho e (k : Int) 0 xs y (a.eval x) (enc y) c (fun _ => True) (fun _ => False) haddr (by rw [hoff, hsz]; simp) rfl hx (by rw [ht, hn]) (h1 y) HO (by omega) (by omega) hcl hcc (by rw [hn, hsz]; omega) ?_ (fun _ hk => hk.elim) HB ?_
  · show _ = enc y
    rw [hsz] at hcl
    rw [Nat.zero_add, hn, List.take_zero, List.nil_append, List.drop_of_length_le (by omega), List.append_nil]
  · intro w1 hr hb hg
    exact h w1 (by simpa using hr) hb hg
end
end Kd
end Go.Proofs.YteefopaoodfapaaDoor.B
