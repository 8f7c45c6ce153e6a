/- PRINTED WORDS, second file: A REGION THAT DRAWS ITS ORDER, WALKED BY HAND, where its last store writes what its own loads read ('x.f = append(x.f, f(i))'). Plain theorems; no macro, no elab. A claim may hold it (turn the namespace's name).
  A load may be taken first in every world that meets S; behind the operations of ds nothing is shown; sound because each of ds waits for what is taken (Region.lastB). The kernel checks it.
  By an AI agent of Go's test side, Mon Nov 16 2026. No person has read it. Small words for the walks: counted conjunctions, bounds as Bool. What the small functions of the instance layer answer: arithmetic, places, vehicles, requests, roads. What the helpers of the laws answer over slices of vehicles, requests, roads: copies, comparisons, sizes. What the laws' helpers answer over a whole instance: its copy, its comparison with itself, its size. What ValidInst of the reference and of the program answer: one and the same condition on the instance. What the small functions over roads and nodes answer. ValidInst of the reference and of the program answer Inst.valid. A region whose order is open, by one fact J on memory that every operation keeps: each operation gives one value in every world in which J holds (a load of a cell that J names; a call that answers a number, whatever memory it makes). Then the order does not matter. -/
import Derived.OrdersHeld
import Derived.Deep.RegionHeld3
import Derived.Laws.BitsLemmas
import Derived.RowKit
import Derived.Test.YtogjkkbhmanbmaaGreatDoorProg
import Derived.Below
import Derived.Deep.Draws
import Derived.Deep.AppendLies
import Derived.Maps.AppendAt
import Derived.OwnWalk
import Derived.Laws.BytesArg
import Derived.Laws.MakeOwn
import Derived.Laws.OwnMore
import Derived.Deep.OwnRows
import Derived.Tactics
import Derived.Lib.ConvBytes
import Derived.Lib.Hide
import Derived.Laws.Slices
import Derived.WalkKit
import Derived.KernelRfl
import Derived.RowKit3
import Derived.Deep.LoopGhost
import Derived.Deep.QuietTactic
import Derived.BigQuiet
import Derived.WideLaws
import Derived.Deep.DeepCutAuto
import Derived.Deep.CutBlock
import Derived.Laws.Rows
import Derived.Lib.AppendStr
import Derived.ArgAppend
import Derived.Laws.IdiomCopy
import Derived.StillTailTactics
import Derived.Deep.RegionWith
import Derived.Test.YtogjkkbhmanbmaaGreatDoorQP1
import Derived.Still
namespace Go.Proofs.YtogjkkbhmanbmaaGreatDoorW.PrintLast

section
variable {P : Program} {ops : Array Oper} {Q : Exit → Act → World → Prop} {md : Region.Mode} {S : World → Prop} {ds : List Nat}

/-- Operation d waits for operation i, by a chain of at most 'fuel' edges. -/
def Region.reachB (md : Region.Mode) (ops : Array Oper) (i : Nat) : Nat → Nat → Bool
  | 0, _ => false
  | fuel + 1, d => match ops[d]? with
    | some o => o.after.any fun e => Region.binds md e && (e.on == i || Region.reachB md ops i fuel e.on)
    | none => false

/-- Each of ds that has not come up yet waits for number i. -/
def Region.lastB (md : Region.Mode) (ops : Array Oper) (listed : Array Bool) (ds : List Nat) (i : Nat) : Bool :=
  ds.all fun d => listed.getD d true || Region.reachB md ops i ops.size d

def ListedClosed (md : Region.Mode) (ops : Array Oper) (listed : Array Bool) : Prop :=
  ∀ j oj, ops[j]? = some oj → listed.getD j false = true → ∀ e ∈ oj.after, Region.binds md e = true → listed.getD e.on false = true

theorem ListedClosed.set {listed : Array Bool} {i : Nat} (h : ListedClosed md ops listed) (hi : i ∈ Region.ready md ops listed) : ListedClosed md ops (listed.setIfInBounds i true) := by
  obtain ⟨_, oi, hoi, hall⟩ := mem_ready.1 hi
  intro j oj hj hl e he hb
  by_cases hij : i = j
  · subst hij
    have : oj = oi := Option.some.inj (hj.symm.trans hoi)
    subst this
    exact getD_set_true (hall e he hb)
  · rw [getD_set_ne false hij] at hl
    exact getD_set_true (h j oj hj hl e he hb)

/-- Whatever order is picked from here on, AND 'S' HOLDS BEHIND EVERY OPERATION THAT IS CARRIED OUT, those of ds apart. -/
def wpAnyLast (P : Program) (md : Region.Mode) (ops : Array Oper) (Q : Exit → Act → World → Prop) (S : World → Prop) (ds : List Nat) : Nat → Array Bool → Act → World → Prop
  | 0, listed, a, w => Region.ready md ops listed = [] ∧ Q .normal a w
  | fuel + 1, listed, a, w =>
    (Region.ready md ops listed = [] → Q .normal a w) ∧
    ∀ i ∈ Region.ready md ops listed, wpOp P ops Q i (fun a' w' => (i ∉ ds → S w → S w') ∧ wpAnyLast P md ops Q S ds fuel (listed.setIfInBounds i true) a' w') a w

theorem wpAnyLast_all {rs : List Nat} {fuel : Nat} {listed : Array Bool} {a : Act} {w : World} (hr : Region.ready md ops listed = rs) (hne : rs ≠ [])
    (h : ∀ i ∈ rs, wpOp P ops Q i (fun a' w' => (i ∉ ds → S w → S w') ∧ wpAnyLast P md ops Q S ds fuel (listed.setIfInBounds i true) a' w') a w) : wpAnyLast P md ops Q S ds (fuel + 1) listed a w :=
  ⟨fun h0 => absurd (hr ▸ h0) hne, hr ▸ h⟩

end

section
variable {P : Program} {ops : Array Oper} {Q : Exit → Act → World → Prop} {md : Region.Mode} {S : World → Prop} {ds : List Nat}

def AllReadyL (P : Program) (md : Region.Mode) (ops : Array Oper) (Q : Exit → Act → World → Prop) (S : World → Prop) (ds : List Nat) (fuel : Nat) (listed : Array Bool) (a : Act) (w : World) (rs : List Nat) : Prop :=
  ∀ i ∈ rs, wpOp P ops Q i (fun a' w' => (i ∉ ds → S w → S w') ∧ wpAnyLast P md ops Q S ds fuel (listed.setIfInBounds i true) a' w') a w
theorem AllReadyL.nil {fuel : Nat} {listed : Array Bool} {a : Act} {w : World} : AllReadyL P md ops Q S ds fuel listed a w [] := fun _ h => by cases h
theorem AllReadyL.cons {fuel : Nat} {listed : Array Bool} {a : Act} {w : World} {i : Nat} {o : Oper} {rs : List Nat} (ho : ops[i]? = some o) (hd : i ∉ ds)
    (h : ∀ K' : Act → World → Prop, Shut (∀ a w, S w → (S w → wpAnyLast P md ops Q S ds fuel (listed.setIfInBounds i true) a w) → K' a w) → if Region.wanted o (yielded ops a.tmps) = true then Oper.wp P o a w K' Q else K' (a.put o.dst undef) w)
    (hs : AllReadyL P md ops Q S ds fuel listed a w rs) : AllReadyL P md ops Q S ds fuel listed a w (i :: rs) := fun j hj => by
  rcases List.mem_cons.1 hj with rfl | hj
  · exact wpOp_step ho (fun K' hK => h K' (fun a w hS hW => hK a w ⟨fun _ _ => hS, hW hS⟩))
  · exact hs j hj
theorem wpAnyLast_ready {rs : List Nat} {fuel : Nat} {listed : Array Bool} {a : Act} {w : World} (hr : Region.ready md ops listed = rs) (hne : rs ≠ [])
    (h : AllReadyL P md ops Q S ds fuel listed a w rs) : wpAnyLast P md ops Q S ds (fuel + 1) listed a w := wpAnyLast_all hr hne h
def readyB (md : Region.Mode) (ops : Array Oper) (l l' : Array Bool) (i : Nat) : Bool := (Region.ready md ops l == [i]) && (l.setIfInBounds i true == l')
/-- One operation alone may come up now (a call, a build, an append ..): it is run, S is shown behind it. -/
theorem one_ {i : Nat} {N : Option Tmp} {oi : Oper} {fuel : Nat} {l : Array Bool} {a : Act} {w : World} (l' : Array Bool) (hi : ops[i]? = some oi) (hN : oi.dst = N) (hc : readyB md ops l l' i = true) (hd : i ∉ ds)
    (h : ∀ K : Act → World → Prop, Shut (∀ a' w', S w' → (S w' → wpAnyLast P md ops Q S ds fuel l' a' w') → K a' w') → if Region.wanted oi (yielded ops a.tmps) = true then Oper.wp P oi a w K Q else K (a.put N undef) w) :
    wpAnyLast P md ops Q S ds (fuel + 1) l a w := by
  subst hN
  simp only [readyB, Bool.and_eq_true, beq_iff_eq] at hc
  obtain ⟨h1, h2⟩ := hc
  subst h2
  exact wpAnyLast_ready h1 (by simp) (AllReadyL.cons hi hd (fun K hK => h K hK) AllReadyL.nil)
/-! ### Several operations that write or call may come up: each order is walked, what follows is shown once (join_) -/
theorem two_ {i j : Nat} {Ni Nj : Option Tmp} {oi oj : Oper} {fuel : Nat} {l : Array Bool} {a : Act} {w : World} (li lj : Array Bool) (hi : ops[i]? = some oi) (hj : ops[j]? = some oj) (hNi : oi.dst = Ni) (hNj : oj.dst = Nj)
    (hc : (Region.ready md ops l == [i, j] && l.setIfInBounds i true == li && l.setIfInBounds j true == lj) = true) (hdi : i ∉ ds) (hdj : j ∉ ds)
    (h1 : ∀ K : Act → World → Prop, Shut (∀ a' w', S w' → (S w' → wpAnyLast P md ops Q S ds fuel li a' w') → K a' w') → if Region.wanted oi (yielded ops a.tmps) = true then Oper.wp P oi a w K Q else K (a.put Ni undef) w)
    (h2 : ∀ K : Act → World → Prop, Shut (∀ a' w', S w' → (S w' → wpAnyLast P md ops Q S ds fuel lj a' w') → K a' w') → if Region.wanted oj (yielded ops a.tmps) = true then Oper.wp P oj a w K Q else K (a.put Nj undef) w) :
    wpAnyLast P md ops Q S ds (fuel + 1) l a w := by
  subst hNi
  subst hNj
  simp only [Bool.and_eq_true, beq_iff_eq] at hc
  obtain ⟨⟨h3, h4⟩, h5⟩ := hc
  subst h4
  subst h5
  exact wpAnyLast_ready h3 (by simp) (AllReadyL.cons hi hdi (fun K hK => h1 K hK) (AllReadyL.cons hj hdj (fun K hK => h2 K hK) AllReadyL.nil))
theorem three_ {i j k : Nat} {Ni Nj Nk : Option Tmp} {oi oj ok : Oper} {fuel : Nat} {l : Array Bool} {a : Act} {w : World} (li lj lk : Array Bool) (hi : ops[i]? = some oi) (hj : ops[j]? = some oj) (hk : ops[k]? = some ok) (hNi : oi.dst = Ni) (hNj : oj.dst = Nj) (hNk : ok.dst = Nk)
    (hc : (Region.ready md ops l == [i, j, k] && l.setIfInBounds i true == li && l.setIfInBounds j true == lj && l.setIfInBounds k true == lk) = true) (hdi : i ∉ ds) (hdj : j ∉ ds) (hdk : k ∉ ds)
    (h1 : ∀ K : Act → World → Prop, Shut (∀ a' w', S w' → (S w' → wpAnyLast P md ops Q S ds fuel li a' w') → K a' w') → if Region.wanted oi (yielded ops a.tmps) = true then Oper.wp P oi a w K Q else K (a.put Ni undef) w)
    (h2 : ∀ K : Act → World → Prop, Shut (∀ a' w', S w' → (S w' → wpAnyLast P md ops Q S ds fuel lj a' w') → K a' w') → if Region.wanted oj (yielded ops a.tmps) = true then Oper.wp P oj a w K Q else K (a.put Nj undef) w)
    (h3 : ∀ K : Act → World → Prop, Shut (∀ a' w', S w' → (S w' → wpAnyLast P md ops Q S ds fuel lk a' w') → K a' w') → if Region.wanted ok (yielded ops a.tmps) = true then Oper.wp P ok a w K Q else K (a.put Nk undef) w) :
    wpAnyLast P md ops Q S ds (fuel + 1) l a w := by
  subst hNi
  subst hNj
  subst hNk
  simp only [Bool.and_eq_true, beq_iff_eq] at hc
  obtain ⟨⟨⟨h4, h5⟩, h6⟩, h7⟩ := hc
  subst h5
  subst h6
  subst h7
  exact wpAnyLast_ready h4 (by simp) (AllReadyL.cons hi hdi (fun K hK => h1 K hK) (AllReadyL.cons hj hdj (fun K hK => h2 K hK) (AllReadyL.cons hk hdk (fun K hK => h3 K hK) AllReadyL.nil)))
/-- The act with some destinations filled. -/
def putAll : Act → List (Tmp × Value) → Act
  | a, [] => a
  | a, (n, v) :: r => putAll (a.put (some n) v) r
/-- What follows, once: s the values that the orders leave, F what is known of them and of the world. -/
theorem join_ {σ : Type} {fuel : Nat} {l : Array Bool} {a : Act} {w : World} (fuel' : Nat) (l' : Array Bool) (ns : σ → List (Tmp × Value)) (F : σ → World → Prop)
    (hcont : ∀ s w', F s w' → wpAnyLast P md ops Q S ds fuel' l' (putAll a (ns s)) w')
    (h : (∀ s w', F s w' → wpAnyLast P md ops Q S ds fuel' l' (putAll a (ns s)) w') → wpAnyLast P md ops Q S ds fuel l a w) : wpAnyLast P md ops Q S ds fuel l a w := h hcont
end
end Go.Proofs.YtogjkkbhmanbmaaGreatDoorW.PrintLast
namespace Go.Proofs.YtogjkkbhmanbmaaGreatDoor.B
open Go.RowKit Go.Proofs.YtogjkkbhmanbmaaGreatDoorW.PrintWords

def inB (x lo hi : Int) : Bool := decide (lo ≤ x) && decide (x ≤ hi)
def allI (n : Nat) (f : Nat → Bool) : Bool := (List.range n).all f
theorem allI_succ (n : Nat) (f : Nat → Bool) : allI (n + 1) f = (allI n f && f n) := by simp [allI, List.range_succ]
theorem allI_iff {n : Nat} {f : Nat → Bool} : allI n f = true ↔ ∀ k, k < n → f k = true := by simp [allI]
theorem allI_false {n k : Nat} {f : Nat → Bool} (hk : k < n) (h : f k = false) : allI n f = false := by
  cases he : allI n f with
  | false => rfl
  | true => rw [allI_iff.1 he k hk] at h; cases h
/-- Behind a call that makes memory: what stood below reads as before. -/
theorem bcell {W w1 : World} (hb : Below W.heap.size W w1) : (∀ b o, b < W.heap.size → w1.cell? ⟨b, o, none⟩ = W.cell? ⟨b, o, none⟩) ∧ (∀ b o, b < W.heap.size → w1.frozen? ⟨b, o, none⟩ = W.frozen? ⟨b, o, none⟩) :=
  ⟨fun b o h => hb.cell (p := ⟨b, o, none⟩) h, fun b o h => hb.frozen (p := ⟨b, o, none⟩) h⟩

/-- The first k places hold what xs holds there. -/
def Filled {α : Type} (xs : List α) (k : Nat) (ys : List α) : Prop := ys.length = xs.length ∧ ∀ j, j < k → ys[j]? = xs[j]?
theorem Filled.zero {α : Type} (xs : List α) (z : α) : Filled xs 0 (List.replicate xs.length z) := ⟨by simp, fun j hj => by omega⟩
theorem Filled.step {α : Type} {xs ys : List α} {k : Nat} (h : Filled xs k ys) (hk : k < xs.length) (z : α) : Filled xs (k + 1) (ys.set k (xs.getD k z)) := by
  refine ⟨by simp [h.1], fun j hj => ?_⟩
  by_cases e : j = k
  · subst e
    rw [List.getElem?_set_self (by rw [h.1]; exact hk)]
    simp [List.getD_eq_getElem?_getD, List.getElem?_eq_getElem hk]
  · rw [List.getElem?_set_ne (Ne.symm e)]
    exact h.2 j (by omega)
theorem Filled.done {α : Type} {xs ys : List α} {k : Nat} (h : Filled xs k ys) (hk : xs.length ≤ k) : ys = xs := by
  apply List.ext_getElem?
  intro j
  by_cases hj : j < k
  · exact h.2 j hj
  · rw [List.getElem?_eq_none (by rw [h.1]; omega), List.getElem?_eq_none (by omega)]
/-- A world written out field by field reads as the world whose heap it holds. -/
theorem mk_cell (W : World) (t : Nat → Question → Nat) (d : Nat) (o : Os) (u : Array (Nat × ByteArray)) (a : Addr) : ({ heap := W.heap, tape := t, drawn := d, os := o, output := u } : World).cell? a = W.cell? a := rfl
theorem mk_frozen (W : World) (t : Nat → Question → Nat) (d : Nat) (o : Os) (u : Array (Nat × ByteArray)) (a : Addr) : ({ heap := W.heap, tape := t, drawn := d, os := o, output := u } : World).frozen? a = W.frozen? a := rfl
theorem al_new (W : World) (o : Obj) : (W.alloc o).heap[W.heap.size]? = some o := heap_alloc_new W o
theorem al_old {W : World} {o : Obj} {i : Nat} (h : i < W.heap.size) : (W.alloc o).heap[i]? = W.heap[i]? := by
  have e : (W.alloc o).heap = W.heap.push o := rfl
  rw [e, Array.getElem?_push, if_neg (Nat.ne_of_lt h)]
theorem al_size (W : World) (o : Obj) : (W.alloc o).heap.size = W.heap.size + 1 := by
  have e : (W.alloc o).heap = W.heap.push o := rfl
  rw [e, Array.size_push]
/-- A block known whole reads as itself behind a call that makes memory. -/
theorem lay {W w1 : World} (hb : Below W.heap.size W w1) {g : Nat} {cs : Array Value} {t : TypeId} (h : W.heap[g]? = some (.cells cs t (0, 0))) : (∀ o, w1.cell? ⟨g, o, none⟩ = cs[o]?) ∧ ∀ o, w1.frozen? ⟨g, o, none⟩ = false :=
  ⟨fun o => blk_cell (blk_below h hb) o, fun o => blk_frozen (blk_below h hb) o⟩
theorem bel_box {w W : World} (h : Below w.heap.size w W) (o : Obj) : Below w.heap.size w (W.alloc o) := below_alloc h o
theorem blk_box {W : World} {g : Nat} {b : Obj} (h : W.heap[g]? = some b) (o : Obj) : (W.alloc o).heap[g]? = some b := (al_old (blk_lt h)).trans h
theorem bel_call {w W w1 : World} (h : Below w.heap.size w W) (hb : Below W.heap.size W w1) : Below w.heap.size w w1 := below_then h h.size hb
theorem bel_set {w W : World} (h : Below w.heap.size w W) {b o : Nat} (hb : w.heap.size ≤ b) (v : Value) : Below w.heap.size w (W.setCell ⟨b, o, none⟩ v) := h.setCell hb v

namespace Kd
open Go.Proofs.YtogjkkbhmanbmaaGreatDoorW.PrintWords.Kd
/-- A kind whose cells hang on no memory. -/
def flat {α : Type} (n : Nat) (enc : α → List Value) (hn : ∀ x, (enc x).length = n) (h1 : ∀ x, ∀ u ∈ enc x, u.oneCell' = true) : Kd α where
  sz := n
  E := []
  K := fun _ x cs => cs = enc x
  M := fun _ _ _ x cs => cs = enc x
  K_len := fun h => by rw [h]; exact hn _
  K_one := fun h u hu => by rw [h] at hu; exact h1 _ u hu
  K_below := fun _ h => h
  K_of_M := fun h => h
  M_mono := fun _ h => h
  M_bound := fun h => h
  M_move := fun _ h => h
  M_lower := fun _ h => h
theorem flat_at {α : Type} {n : Nat} {enc : α → List Value} {hn : ∀ x, (enc x).length = n} {h1 : ∀ x, ∀ u ∈ enc x, u.oneCell' = true} {w : World} {A : Option Addr} {m : Nat} {xs : List α}
    (h : (flat n enc hn h1).C w A m xs) (z : α) (k : Nat) (hk : k < m) : ∃ ad, A = some ad ∧ ∀ j u, (enc (xs.getD k z))[j]? = some u → w.cell? (ad.add (k * n + j)) = some u := by
  obtain ⟨ad, c, e, _, hc, hr⟩ := C_get h z (k : Int) (by omega) (by omega)
  refine ⟨ad, e, fun j u hu => ?_⟩
  have := hr j u (by rw [hc]; simpa using hu)
  simp only [Int.toNat_natCast] at this
  exact this
theorem flat_cells {α : Type} {n : Nat} {enc : α → List Value} {hn : ∀ x, (enc x).length = n} {h1 : ∀ x, ∀ u ∈ enc x, u.oneCell' = true} {d : Kd α} (hd : d = flat n enc hn h1) {w : World} {A : Option Addr} {m : Nat} {xs : List α}
    (h : d.C w A m xs) (z : α) (k : Nat) (hk : k < m) : ∃ ad, A = some ad ∧ (∀ u, (enc (xs.getD k z))[0]? = some u → w.cell? (ad.add (k * n)) = some u) ∧ ∀ j u, (enc (xs.getD k z))[j + 1]? = some u → w.cell? ⟨(ad.add (k * n)).block, (ad.add (k * n)).off + (j + 1), none⟩ = some u := by
  subst hd
  obtain ⟨ad, e, hc⟩ := flat_at h z k hk
  exact ⟨ad, e, fun u hu => hc 0 u hu, fun j u hu => by rw [← add_field ad _ _ (Nat.succ_pos j)]; exact hc (j + 1) u hu⟩
section
variable {P : Program} {ops : Array Oper} {rest : List Oper} {o : Oper} {a : Act} {Q : Exit → Act → World → Prop} {α : Type} {n : Nat} {enc : α → List Value} {hn : ∀ x, (enc x).length = n} {h1 : ∀ x, ∀ u ∈ enc x, u.oneCell' = true}
/-- make([]T, m). -/
theorem flat_make (d : Kd α) (hdd : d = flat n enc hn h1) {w0 W : World} (N : Tmp) (hd : o.dst = some N) (hgd : o.guard = none) (t : TypeId) (x y : Operand) (ho : o.op = .makeSlice t x y) (m : Nat) (hx : a.eval x = .int .i64 m) (hy : a.eval y = .int .i64 m)
    (e : Nat) (ht : P.underlying t = some (.slice e)) (z0 : α) (bytes : Nat) (hinfo : (P.info? e).map (fun i => (i.zero.map (·.cells.toList), i.size, i.bytes)) = some (some (enc z0), n, bytes)) (hs0 : 0 < n) (hb0 : 0 < bytes)
    (hl : m * bytes ≤ 281474976710656) (HB : Below w0.heap.size w0 W)
    (h : ∀ v1 w1, d.R e w1 w0.heap.size (fun _ => True) v1 (List.replicate m z0) → Below w0.heap.size w0 w1 → W.grownBy w1 none → wpList P ops Q rest (a.put (some N) v1) w1) : wpList P ops Q (o :: rest) a W := by
  subst hdd
  obtain ⟨i, hi, hz⟩ := Option.map_eq_some_iff.1 hinfo
  simp only [Prod.mk.injEq] at hz
  obtain ⟨hz0, hz1, hz2⟩ := hz
  obtain ⟨z, hz3, hz4⟩ := Option.map_eq_some_iff.1 hz0
  refine R_make (flat n enc hn h1) w0.heap.size e hgd hd t x y ho (m : Int) hx hy ht z bytes (by rw [hi]; simp only [Option.map_some, hz3, hz1, hz2]; rfl) (by rw [← Array.length_toList, hz4]; exact hn z0) hs0 hb0 z0 (ok := fun _ => True) (okp := fun _ => True) (by rw [hz4]; rfl) (fun _ _ => trivial) trivial (by omega) (by simpa using hl) HB HB.size ?_
  intro v1 w1 hr hb hg _
  rw [hd]
  exact h v1 w1 (by simpa using hr) hb hg
/-- out[k] = y, a whole element. -/
theorem flat_store (d : Kd α) (hdd : d = flat n enc hn h1) {w0 W : World} (hN : o.dst = none) (hgd : o.guard = none) (t : TypeId) (p x : Operand) (ho : o.op = .store t p x) {e g m cap o' : Nat} (k : Nat) {xs : List α} (y : α)
    (haddr : a.eval p = .pointer (some ⟨g, o', none⟩)) (hoff : o' = k * n) (hx : (a.eval x).cells.toList = enc y) (ht : (P.info? t).map (·.size) = some n)
    (HO : d.R e W w0.heap.size (fun _ => True) (.slice (some ⟨g, 0, none⟩) m cap) xs) (hk : k < m) (HB : Below w0.heap.size w0 W)
    (h : ∀ w1, d.R e w1 w0.heap.size (fun _ => True) (.slice (some ⟨g, 0, none⟩) m cap) (xs.set k y) → Below w0.heap.size w0 w1 → W.grownBy w1 (some g) → wpList P ops Q rest a w1) : wpList P ops Q (o :: rest) a W := by
  subst hdd
  have hm : m = xs.length := (R_reads' HO).1
  have hz : 0 < xs.length := by omega
  obtain ⟨c, hcl, hcM, hcc, _⟩ := R_elem HO (xs[0]'hz) (k : Int) (by omega) (by omega)
  have hsz : (flat n enc hn h1).sz = n := rfl
  refine R_store (flat n enc hn h1) w0.heap.size hN hgd t p x ho e (k : Int) 0 xs y (a.eval x) (enc y) c (fun _ => True) (fun _ => False) haddr (by rw [hoff, hsz]; simp) rfl hx (by rw [ht, hn]) (h1 y) HO (by omega) (by omega) hcl hcc (by rw [hn, hsz]; omega) ?_ (fun _ hk => hk.elim) HB ?_
  · show _ = enc y
    rw [hsz] at hcl
    rw [Nat.zero_add, hn, List.take_zero, List.nil_append, List.drop_of_length_le (by omega), List.append_nil]
  · intro w1 hr hb hg
    exact h w1 (by simpa using hr) hb hg
end
end Kd
end Go.Proofs.YtogjkkbhmanbmaaGreatDoor.B
namespace Go.Proofs.YtogjkkbhmanbmaaGreatDoor.L1
open Go.RowKit Go.Proofs.YtogjkkbhmanbmaaGreatDoorW.PrintWords Go.Proofs.YtogjkkbhmanbmaaGreatDoor.B
set_option linter.unusedVariables false
set_option linter.unusedSimpArgs false

structure Place where (x y o c h : Int)
structure Veh where (room skills : Int) (home : Place)
structure Req where (size tags : Int) (from_ to_ : Place)
structure Road where (a b t : Int)
def Place.enc (p : Place) : List Value := [.int .i64 p.x, .int .i64 p.y, .int .i64 p.o, .int .i64 p.c, .int .i64 p.h]
def Veh.enc (v : Veh) : List Value := [.int .i64 v.room, .int .i64 v.skills, .int .i64 v.home.x, .int .i64 v.home.y, .int .i64 v.home.o, .int .i64 v.home.c, .int .i64 v.home.h]
def Req.enc (r : Req) : List Value := [.int .i64 r.size, .int .i64 r.tags, .int .i64 r.from_.x, .int .i64 r.from_.y, .int .i64 r.from_.o, .int .i64 r.from_.c, .int .i64 r.from_.h, .int .i64 r.to_.x, .int .i64 r.to_.y, .int .i64 r.to_.o, .int .i64 r.to_.c, .int .i64 r.to_.h]
def Road.enc (r : Road) : List Value := [.int .i64 r.a, .int .i64 r.b, .int .i64 r.t]
def kVeh : Kd Veh := Kd.flat 7 Veh.enc (fun _ => rfl) (by intro x u hu; simp [Veh.enc] at hu; rcases hu with rfl | rfl | rfl | rfl | rfl | rfl | rfl <;> rfl)
def kReq : Kd Req := Kd.flat 12 Req.enc (fun _ => rfl) (by intro x u hu; simp [Req.enc] at hu; rcases hu with rfl | rfl | rfl | rfl | rfl | rfl | rfl | rfl | rfl | rfl | rfl | rfl <;> rfl)
def kRoad : Kd Road := Kd.flat 3 Road.enc (fun _ => rfl) (by intro x u hu; simp [Road.enc] at hu; rcases hu with rfl | rfl | rfl <;> rfl)
def Place.val (p : Place) : Value := .agg #[.int .i64 p.x, .int .i64 p.y, .int .i64 p.o, .int .i64 p.c, .int .i64 p.h]
def zP : Place := ⟨0, 0, 0, 0, 0⟩
def zV : Veh := ⟨0, 0, zP⟩
def zQ : Req := ⟨0, 0, zP, zP⟩
def zR : Road := ⟨0, 0, 0⟩

def Place.good (p : Place) : Bool := inB p.x (-10000) 10000 && inB p.y (-10000) 10000 && inB p.o 0 p.c && decide (p.c ≤ 1000000) && inB p.h 0 1000000
def Veh.good (v : Veh) : Bool := inB v.room 0 1000000 && inB v.skills 0 65535 && v.home.good
def Req.good (r : Req) : Bool := inB r.size 0 10000 && inB r.tags 0 65535 && r.from_.good && r.to_.good
def Road.good (r : Road) (n : Int) : Bool := inB r.a 0 (n - 1) && inB r.b 0 (n - 1) && r.a != r.b && inB r.t 0 100000
def Road.lt (r s : Road) : Bool := decide (r.a < s.a ∨ (r.a = s.a ∧ r.b < s.b))

section
variable (w : World)
theorem spec_l1In (x lo hi : Int) : Calls Tryz.prog 58 #[.int .i64 x, .int .i64 lo, .int .i64 hi] w fun e w' => e = .returned (.bool (inB x lo hi)) ∧ w = w' := by
  go_enter Tryz.func58, Tryz.ntmps58
  go_wp2
  all_goals (go_ret; exact ⟨by simp [inB, *] <;> omega, rfl⟩)
theorem impl_within (x lo hi : Int) : Calls Tryz.prog 65 #[.int .i64 x, .int .i64 lo, .int .i64 hi] w fun e w' => e = .returned (.bool (inB x lo hi)) ∧ w = w' := by
  go_enter Tryz.func65, Tryz.ntmps65
  go_wp2
  all_goals (go_ret; exact ⟨by simp [inB, *] <;> omega, rfl⟩)

theorem spec_goodPlace (p : Place) : Calls Tryz.prog 59 #[.agg #[.int .i64 p.x, .int .i64 p.y, .int .i64 p.o, .int .i64 p.c, .int .i64 p.h]] w fun e w' => e = .returned (.bool p.good) ∧ Below w.heap.size w w' := by
  go_enter Tryz.func59, Tryz.ntmps59
  go_wp2_with (go_at_call 58; refine (spec_l1In _ _ _ _).mono ?_; rintro e w' ⟨rfl, rfl⟩)
  all_goals (go_ret; exact ⟨by simp [Place.good, *] <;> omega, (Below.refl _ _).alloc (Nat.le_refl _) _⟩)
theorem impl_goodPlace (p : Place) : Calls Tryz.prog 66 #[.agg #[.int .i64 p.x, .int .i64 p.y, .int .i64 p.o, .int .i64 p.c, .int .i64 p.h]] w fun e w' => e = .returned (.bool p.good) ∧ Below w.heap.size w w' := by
  go_enter Tryz.func66, Tryz.ntmps66
  go_wp2_with (go_at_call 65; refine (impl_within _ _ _ _).mono ?_; rintro e w' ⟨rfl, rfl⟩)
  all_goals (go_ret; refine ⟨?_, (Below.refl _ _).alloc (Nat.le_refl _) _⟩; simp_all [Place.good, inB] <;> omega)

theorem spec_goodVeh (v : Veh) : Calls Tryz.prog 27 #[.agg #[.int .i64 v.room, .int .i64 v.skills, .int .i64 v.home.x, .int .i64 v.home.y, .int .i64 v.home.o, .int .i64 v.home.c, .int .i64 v.home.h]] w fun e w' => e = .returned (.bool v.good) ∧ Below w.heap.size w w' := by
  go_enter Tryz.func27, Tryz.ntmps27
  go_wp2_with (first | (go_at_call 58; refine (spec_l1In _ _ _ _).mono ?_; rintro e w' ⟨rfl, rfl⟩) | (go_at_call 59; refine (spec_goodPlace _ v.home).mono ?_; rintro e w' ⟨rfl, hb⟩))
  all_goals go_ret
  · exact ⟨by simp [Veh.good, *], ((Below.refl _ _).alloc (Nat.le_refl _) _).trans (‹Below _ _ _›.mono (by simp))⟩
  all_goals exact ⟨by simp [Veh.good, *], (Below.refl _ _).alloc (Nat.le_refl _) _⟩
end
end Go.Proofs.YtogjkkbhmanbmaaGreatDoor.L1
namespace Go.Proofs.YtogjkkbhmanbmaaGreatDoor.L1
open Go.RowKit Go.Proofs.YtogjkkbhmanbmaaGreatDoorW.PrintWords Go.Proofs.YtogjkkbhmanbmaaGreatDoor.B
set_option linter.unusedVariables false
set_option linter.unusedSimpArgs false
section
variable (w : World)
theorem eqPlace (v : Place) : Calls Tryz.prog 86 #[.agg #[.int .i64 v.x, .int .i64 v.y, .int .i64 v.o, .int .i64 v.c, .int .i64 v.h], .agg #[.int .i64 v.x, .int .i64 v.y, .int .i64 v.o, .int .i64 v.c, .int .i64 v.h]] w fun e w' => e = .returned (.bool true) ∧ Below w.heap.size w w' := by
  go_enter Tryz.func86, Tryz.ntmps86
  go_wp2
  go_ret
  exact ⟨rfl, by with_reducible repeat (first | refine bel_set ?_ (by omega) _ | refine below_alloc ?_ _ | refine below_drew ?_ | exact Below.refl _ _)⟩
set_option maxHeartbeats 1000000 in
theorem eqVeh (v : Veh) : Calls Tryz.prog 74 #[.agg #[.int .i64 v.room, .int .i64 v.skills, .int .i64 v.home.x, .int .i64 v.home.y, .int .i64 v.home.o, .int .i64 v.home.c, .int .i64 v.home.h], .agg #[.int .i64 v.room, .int .i64 v.skills, .int .i64 v.home.x, .int .i64 v.home.y, .int .i64 v.home.o, .int .i64 v.home.c, .int .i64 v.home.h]] w fun e w' => e = .returned (.bool true) ∧ Below w.heap.size w w' := by
  go_enter Tryz.func74, Tryz.ntmps74
  go_wp2_with fail
  refine (eqPlace _ v.home).mono ?_; rintro e w0 ⟨rfl, hb0⟩; obtain ⟨hc0, hf0⟩ := bcell hb0; have hz0 : w.heap.size + 1 < w0.heap.size := by have := hb0.size; (try simp only [al_size] at this); omega
  go_wp2
  go_ret
  exact ⟨rfl, by with_reducible repeat (first | refine bel_set ?_ (by omega) _ | refine below_alloc ?_ _ | refine below_drew ?_ | refine bel_call ?_ hb0 | exact Below.refl _ _)⟩
set_option maxRecDepth 100000 in
theorem eqVehS (A A' : Option Addr) (c c' : Nat) (xs : List Veh) (hr : kVeh.C w A xs.length xs) (hr' : kVeh.C w A' xs.length xs) (hm : xs.length ≤ 1048576) : Calls Tryz.prog 49 #[.slice A xs.length c, .slice A' xs.length c'] w fun e w' => e = .returned (.bool true) ∧ Below w.heap.size w w' := by
  have HR := Aside0.mk hr; have HR' := Aside0.mk hr'; clear hr hr'
  go_enter Tryz.func49, Tryz.ntmps49
  go_wp2_with fail
  go_loopg [5] (xs.length + 1) (fun q v wr => ∃ k, q = xs.length + 1 - k ∧ k ≤ xs.length ∧ v = .int .i64 k ∧ Aside0 (Below w.heap.size w wr))
  case atStart => exact ⟨0, by omega, by omega, rfl, ⟨Below.refl _ _⟩⟩
  case round =>
    obtain ⟨k, rfl, hk, rfl, HB⟩ := hrel
    by_cases hlt : k < xs.length
    · obtain ⟨ad, e0, h0, h1⟩ := Kd.flat_cells (d := kVeh) rfl (Kd.C_below HR.out HB.out) zV k hlt
      obtain ⟨ad', e0', g0, g1⟩ := Kd.flat_cells (d := kVeh) rfl (Kd.C_below HR'.out HB.out) zV k hlt
      cases e0; cases e0'
      generalize xs.getD k zV = x at h0 h1 g0 g1
      have c0 := h0 _ rfl; have c1 := h1 0 _ rfl; have c2 := h1 1 _ rfl; have c3 := h1 2 _ rfl; have c4 := h1 3 _ rfl; have c5 := h1 4 _ rfl; have c6 := h1 5 _ rfl
      have d0 := g0 _ rfl; have d1 := g1 0 _ rfl; have d2 := g1 1 _ rfl; have d3 := g1 2 _ rfl; have d4 := g1 3 _ rfl; have d5 := g1 4 _ rfl; have d6 := g1 5 _ rfl
      clear h0 h1 g0 g1
      go_wp2_with fail
      go_still_tail 8, (by kernel_rfl)
      go_wp2_with (go_at_call 74; refine (eqVeh _ x).mono ?_; rintro e w2 ⟨rfl, hb⟩; have HB1 := Aside0.mk (bel_call (below_drew HB.out) hb); clear hb)
      go_roundg (xs.length + 1 - (k + 1))
      case measure => omega
      case rel => exact ⟨k + 1, rfl, hlt, by go_num, HB1⟩
    · go_wp2
      go_ret
      exact ⟨rfl, HB.out⟩
set_option maxHeartbeats 1000000 in
theorem eqReq (v : Req) : Calls Tryz.prog 75 #[.agg #[.int .i64 v.size, .int .i64 v.tags, .int .i64 v.from_.x, .int .i64 v.from_.y, .int .i64 v.from_.o, .int .i64 v.from_.c, .int .i64 v.from_.h, .int .i64 v.to_.x, .int .i64 v.to_.y, .int .i64 v.to_.o, .int .i64 v.to_.c, .int .i64 v.to_.h], .agg #[.int .i64 v.size, .int .i64 v.tags, .int .i64 v.from_.x, .int .i64 v.from_.y, .int .i64 v.from_.o, .int .i64 v.from_.c, .int .i64 v.from_.h, .int .i64 v.to_.x, .int .i64 v.to_.y, .int .i64 v.to_.o, .int .i64 v.to_.c, .int .i64 v.to_.h]] w fun e w' => e = .returned (.bool true) ∧ Below w.heap.size w w' := by
  go_enter Tryz.func75, Tryz.ntmps75
  go_wp2_with fail
  refine (eqPlace _ v.from_).mono ?_; rintro e w0 ⟨rfl, hb0⟩; obtain ⟨hc0, hf0⟩ := bcell hb0; have hz0 : w.heap.size + 1 < w0.heap.size := by have := hb0.size; (try simp only [al_size] at this); omega
  go_wp2_with fail
  refine (eqPlace _ v.to_).mono ?_; rintro e w1 ⟨rfl, hb1⟩; obtain ⟨hc1, hf1⟩ := bcell hb1; have hz1 : w.heap.size + 1 < w1.heap.size := by have := hb1.size; (try simp only [al_size] at this); omega
  go_wp2
  go_ret
  exact ⟨rfl, by with_reducible repeat (first | refine bel_set ?_ (by omega) _ | refine below_alloc ?_ _ | refine below_drew ?_ | refine bel_call ?_ hb0 | refine bel_call ?_ hb1 | exact Below.refl _ _)⟩
set_option maxRecDepth 100000 in
theorem eqReqS (A A' : Option Addr) (c c' : Nat) (xs : List Req) (hr : kReq.C w A xs.length xs) (hr' : kReq.C w A' xs.length xs) (hm : xs.length ≤ 1048576) : Calls Tryz.prog 50 #[.slice A xs.length c, .slice A' xs.length c'] w fun e w' => e = .returned (.bool true) ∧ Below w.heap.size w w' := by
  have HR := Aside0.mk hr; have HR' := Aside0.mk hr'; clear hr hr'
  go_enter Tryz.func50, Tryz.ntmps50
  go_wp2_with fail
  go_loopg [5] (xs.length + 1) (fun q v wr => ∃ k, q = xs.length + 1 - k ∧ k ≤ xs.length ∧ v = .int .i64 k ∧ Aside0 (Below w.heap.size w wr))
  case atStart => exact ⟨0, by omega, by omega, rfl, ⟨Below.refl _ _⟩⟩
  case round =>
    obtain ⟨k, rfl, hk, rfl, HB⟩ := hrel
    by_cases hlt : k < xs.length
    · obtain ⟨ad, e0, h0, h1⟩ := Kd.flat_cells (d := kReq) rfl (Kd.C_below HR.out HB.out) zQ k hlt
      obtain ⟨ad', e0', g0, g1⟩ := Kd.flat_cells (d := kReq) rfl (Kd.C_below HR'.out HB.out) zQ k hlt
      cases e0; cases e0'
      generalize xs.getD k zQ = x at h0 h1 g0 g1
      have c0 := h0 _ rfl; have c1 := h1 0 _ rfl; have c2 := h1 1 _ rfl; have c3 := h1 2 _ rfl; have c4 := h1 3 _ rfl; have c5 := h1 4 _ rfl; have c6 := h1 5 _ rfl; have c7 := h1 6 _ rfl; have c8 := h1 7 _ rfl; have c9 := h1 8 _ rfl; have c10 := h1 9 _ rfl; have c11 := h1 10 _ rfl
      have d0 := g0 _ rfl; have d1 := g1 0 _ rfl; have d2 := g1 1 _ rfl; have d3 := g1 2 _ rfl; have d4 := g1 3 _ rfl; have d5 := g1 4 _ rfl; have d6 := g1 5 _ rfl; have d7 := g1 6 _ rfl; have d8 := g1 7 _ rfl; have d9 := g1 8 _ rfl; have d10 := g1 9 _ rfl; have d11 := g1 10 _ rfl
      clear h0 h1 g0 g1
      go_wp2_with fail
      go_still_tail 8, (by kernel_rfl)
      go_wp2_with (go_at_call 75; refine (eqReq _ x).mono ?_; rintro e w2 ⟨rfl, hb⟩; have HB1 := Aside0.mk (bel_call (below_drew HB.out) hb); clear hb)
      go_roundg (xs.length + 1 - (k + 1))
      case measure => omega
      case rel => exact ⟨k + 1, rfl, hlt, by go_num, HB1⟩
    · go_wp2
      go_ret
      exact ⟨rfl, HB.out⟩
set_option maxHeartbeats 1000000 in
theorem eqRoad (v : Road) : Calls Tryz.prog 76 #[.agg #[.int .i64 v.a, .int .i64 v.b, .int .i64 v.t], .agg #[.int .i64 v.a, .int .i64 v.b, .int .i64 v.t]] w fun e w' => e = .returned (.bool true) ∧ Below w.heap.size w w' := by
  go_enter Tryz.func76, Tryz.ntmps76
  go_wp2
  go_ret
  exact ⟨rfl, by with_reducible repeat (first | refine bel_set ?_ (by omega) _ | refine below_alloc ?_ _ | refine below_drew ?_ | exact Below.refl _ _)⟩
set_option maxRecDepth 100000 in
theorem eqRoadS (A A' : Option Addr) (c c' : Nat) (xs : List Road) (hr : kRoad.C w A xs.length xs) (hr' : kRoad.C w A' xs.length xs) (hm : xs.length ≤ 1048576) : Calls Tryz.prog 51 #[.slice A xs.length c, .slice A' xs.length c'] w fun e w' => e = .returned (.bool true) ∧ Below w.heap.size w w' := by
  have HR := Aside0.mk hr; have HR' := Aside0.mk hr'; clear hr hr'
  go_enter Tryz.func51, Tryz.ntmps51
  go_wp2_with fail
  go_loopg [5] (xs.length + 1) (fun q v wr => ∃ k, q = xs.length + 1 - k ∧ k ≤ xs.length ∧ v = .int .i64 k ∧ Aside0 (Below w.heap.size w wr))
  case atStart => exact ⟨0, by omega, by omega, rfl, ⟨Below.refl _ _⟩⟩
  case round =>
    obtain ⟨k, rfl, hk, rfl, HB⟩ := hrel
    by_cases hlt : k < xs.length
    · obtain ⟨ad, e0, h0, h1⟩ := Kd.flat_cells (d := kRoad) rfl (Kd.C_below HR.out HB.out) zR k hlt
      obtain ⟨ad', e0', g0, g1⟩ := Kd.flat_cells (d := kRoad) rfl (Kd.C_below HR'.out HB.out) zR k hlt
      cases e0; cases e0'
      generalize xs.getD k zR = x at h0 h1 g0 g1
      have c0 := h0 _ rfl; have c1 := h1 0 _ rfl; have c2 := h1 1 _ rfl
      have d0 := g0 _ rfl; have d1 := g1 0 _ rfl; have d2 := g1 1 _ rfl
      clear h0 h1 g0 g1
      go_wp2_with fail
      go_still_tail 8, (by kernel_rfl)
      go_wp2_with (go_at_call 76; refine (eqRoad _ x).mono ?_; rintro e w2 ⟨rfl, hb⟩; have HB1 := Aside0.mk (bel_call (below_drew HB.out) hb); clear hb)
      go_roundg (xs.length + 1 - (k + 1))
      case measure => omega
      case rel => exact ⟨k + 1, rfl, hlt, by go_num, HB1⟩
    · go_wp2
      go_ret
      exact ⟨rfl, HB.out⟩
end
end Go.Proofs.YtogjkkbhmanbmaaGreatDoor.L1
namespace Go.Proofs.YtogjkkbhmanbmaaGreatDoor.L1
open Go.RowKit Go.Proofs.YtogjkkbhmanbmaaGreatDoorW.PrintWords Go.Proofs.YtogjkkbhmanbmaaGreatDoor.B
set_option linter.unusedVariables false
set_option linter.unusedSimpArgs false

structure Inst where (vs : List Veh) (qs : List Req) (rs : List Road)
/-- An instance that is read. -/
def ReadInst (w : World) (v : Value) (x : Inst) : Prop := ∃ A0 c0 A1 c1 A2 c2, v = .agg #[.slice A0 x.vs.length c0, .slice A1 x.qs.length c1, .slice A2 x.rs.length c2] ∧
  kVeh.C w A0 x.vs.length x.vs ∧ kReq.C w A1 x.qs.length x.qs ∧ kRoad.C w A2 x.rs.length x.rs
/-- An instance of the call's own: three rows, each elsewhere. -/
def OwnInst (w : World) (base : Nat) (v : Value) (x : Inst) : Prop := ∃ v0 v1 v2 s1 s2, v = .agg #[v0, v1, v2] ∧ kVeh.R 60 w base (fun b => b < s1) v0 x.vs ∧ kReq.R 63 w base (fun b => s1 ≤ b ∧ b < s2) v1 x.qs ∧ kRoad.R 66 w base (fun b => s2 ≤ b) v2 x.rs
theorem ReadInst.below {w w1 : World} {v : Value} {x : Inst} (h : ReadInst w v x) (hb : Below w.heap.size w w1) : ReadInst w1 v x := by
  obtain ⟨A0, c0, A1, c1, A2, c2, rfl, h0, h1, h2⟩ := h
  exact ⟨A0, c0, A1, c1, A2, c2, rfl, Kd.C_below h0 hb, Kd.C_below h1 hb, Kd.C_below h2 hb⟩
theorem OwnInst.read {w : World} {base : Nat} {v : Value} {x : Inst} (h : OwnInst w base v x) : ReadInst w v x := by
  obtain ⟨v0, v1, v2, s1, s2, rfl, h0, h1, h2⟩ := h
  obtain ⟨A0, c0, rfl, _, r0⟩ := Kd.R_reads h0
  obtain ⟨A1, c1, rfl, _, r1⟩ := Kd.R_reads h1
  obtain ⟨A2, c2, rfl, _, r2⟩ := Kd.R_reads h2
  exact ⟨A0, c0, A1, c1, A2, c2, rfl, r0, r1, r2⟩
theorem OwnInst.below {w w1 : World} {base : Nat} {v : Value} {x : Inst} (h : OwnInst w base v x) (hb : Below w.heap.size w w1) : OwnInst w1 base v x := by
  obtain ⟨v0, v1, v2, s1, s2, rfl, h0, h1, h2⟩ := h
  exact ⟨v0, v1, v2, s1, s2, rfl, Kd.R_below h0 hb, Kd.R_below h1 hb, Kd.R_below h2 hb⟩
/-- Few enough for every count. -/
def Inst.small (x : Inst) : Prop := x.vs.length ≤ 1048576 ∧ x.qs.length ≤ 1048576 ∧ x.rs.length ≤ 1048576
section
variable (w : World)
end
end Go.Proofs.YtogjkkbhmanbmaaGreatDoor.L1
namespace Go.Proofs.YtogjkkbhmanbmaaGreatDoor.L1
open Go.RowKit Go.Proofs.YtogjkkbhmanbmaaGreatDoorW.PrintWords Go.Proofs.YtogjkkbhmanbmaaGreatDoor.B
set_option linter.unusedVariables false
set_option linter.unusedSimpArgs false

def roadAt (n : Int) (rs : List Road) (k : Nat) : Bool := (rs.getD k zR).good n && (decide (k = 0) || (rs.getD (k - 1) zR).lt (rs.getD k zR))
def Inst.nodes (x : Inst) : Int := x.vs.length + 2 * x.qs.length
def Inst.few (x : Inst) : Bool := decide (x.vs.length ≤ 64) && decide (x.qs.length ≤ 1000) && decide (x.rs.length ≤ 4000)
def Inst.valid (x : Inst) : Bool := x.few && allI x.vs.length (fun k => (x.vs.getD k zV).good) && allI x.qs.length (fun k => (x.qs.getD k zQ).good) && allI x.rs.length (roadAt x.nodes x.rs)

section
variable (w : World)
set_option maxHeartbeats 1000000 in
theorem eqInst (v v' : Value) (x : Inst) (hr : ReadInst w v x) (hr' : ReadInst w v' x) (hs : x.small) : Calls Tryz.prog 18 #[v, v'] w fun e w' => e = .returned (.bool true) ∧ Below w.heap.size w w' := by
  obtain ⟨A0, c0, A1, c1, A2, c2, rfl, r0, r1, r2⟩ := hr
  obtain ⟨B0, d0, B1, d1, B2, d2, rfl, s0, s1, s2⟩ := hr'
  obtain ⟨n0, n1, n2⟩ := hs
  have HR := Aside0.mk (And.intro r0 (And.intro r1 (And.intro r2 (And.intro s0 (And.intro s1 s2))))); clear r0 r1 r2 s0 s1 s2
  go_enter Tryz.func18, Tryz.ntmps18
  go_wp2_with fail
  have HB := Aside0.mk (below_alloc (below_alloc (Below.refl w.heap.size w) (.cells #[.slice A0 x.vs.length c0, .slice A1 x.qs.length c1, .slice A2 x.rs.length c2] 27)) (.cells #[.slice B0 x.vs.length d0, .slice B1 x.qs.length d1, .slice B2 x.rs.length d2] 27))
  refine (eqVehS _ A0 B0 c0 d0 x.vs (Kd.C_below HR.out.1 HB.out) (Kd.C_below HR.out.2.2.2.1 HB.out) n0).mono ?_
  rintro e w0 ⟨rfl, hb⟩
  have A := blk_below ((al_old (by simp only [al_size]; omega)).trans (al_new w _)) hb
  have B := blk_below (al_new _ _) hb
  simp only [al_size] at B
  obtain ⟨a1, a2⟩ := lay (Below.refl _ _) A; obtain ⟨b1, b2⟩ := lay (Below.refl _ _) B
  have HA := Aside0.mk A; have HB' := Aside0.mk B; have HB0 := Aside0.mk (bel_call HB.out hb); clear hb HB A B
  go_wp2_with fail
  clear a1 a2 b1 b2
  refine (eqReqS _ A1 B1 c1 d1 x.qs (Kd.C_below HR.out.2.1 HB0.out) (Kd.C_below HR.out.2.2.2.2.1 HB0.out) n1).mono ?_
  rintro e w1 ⟨rfl, hb⟩
  obtain ⟨a1, a2⟩ := lay hb HA.out; obtain ⟨b1, b2⟩ := lay hb HB'.out
  have HB1 := Aside0.mk (bel_call HB0.out hb); clear hb HB0
  go_wp2_with fail
  clear a1 a2 b1 b2
  refine (eqRoadS _ A2 B2 c2 d2 x.rs (Kd.C_below HR.out.2.2.1 HB1.out) (Kd.C_below HR.out.2.2.2.2.2 HB1.out) n2).mono ?_
  rintro e w2 ⟨rfl, hb⟩
  have HB2 := Aside0.mk (bel_call HB1.out hb); clear hb HB1
  go_wp2
  go_ret
  exact ⟨rfl, HB2.out⟩

end
end Go.Proofs.YtogjkkbhmanbmaaGreatDoor.L1
namespace Go.Proofs.YtogjkkbhmanbmaaGreatDoor.L1
open Go.RowKit Go.Proofs.YtogjkkbhmanbmaaGreatDoorW.PrintWords Go.Proofs.YtogjkkbhmanbmaaGreatDoor.B
set_option linter.unusedVariables false
set_option linter.unusedSimpArgs false
attribute [local go_sem] mk_cell mk_frozen
def cmp (x y : Int) : Int := if x < y then -1 else if y < x then 1 else 0
def Road.cmp (r s : Road) : Int := if L1.cmp r.a s.a = 0 then L1.cmp r.b s.b else L1.cmp r.a s.a
theorem Road.cmp_neg (r s : Road) : r.cmp s < 0 ↔ r.lt s = true := by
  unfold Road.cmp L1.cmp Road.lt
  rw [decide_eq_true_iff]
  (repeat' split) <;> omega
section
variable (w : World)
theorem isNaN (x : Int) : Calls Tryz.prog 85 #[.int .i64 x] w fun e w' => e = .returned (.bool false) ∧ w = w' := by
  go_enter Tryz.func85, Tryz.ntmps85
  go_wp2
  go_ret
  exact ⟨by simp, rfl⟩
theorem compare (x y : Int) : Calls Tryz.prog 70 #[.int .i64 x, .int .i64 y] w fun e w' => e = .returned (.int .i64 (cmp x y)) ∧ w = w' := by
  go_enter Tryz.func70, Tryz.ntmps70
  go_wp2_with (go_at_call 85; refine (isNaN _ _).mono ?_; rintro e w' ⟨rfl, rfl⟩)
  all_goals (go_ret; exact ⟨by simp [cmp, *] <;> omega, rfl⟩)
/-- cmp.Or over a pair. -/
theorem or2 (x y : Int) (g : Nat) (h0 : w.cell? ⟨g, 0, none⟩ = some (.int .i64 x)) (h1 : w.cell? ⟨g, 1, none⟩ = some (.int .i64 y)) :
    Calls Tryz.prog 69 #[.slice (some ⟨g, 0, none⟩) 2 2] w fun e w' => e = .returned (.int .i64 (if x = 0 then y else x)) ∧ w = w' := by
  by_cases hx : x = 0
  · subst hx
    by_cases hy : y = 0
    · subst hy
      go_enter Tryz.func69, Tryz.ntmps69
      go_wp2
      refine wp_loop_rounds 3 ?_
      rw [rounds_succ]; go_wp2
      rw [rounds_succ]; go_wp2
      rw [rounds_succ]; go_wp2
      go_ret
      exact ⟨rfl, rfl⟩
    · have hb : (y != 0) = true := by simp [hy]
      go_enter Tryz.func69, Tryz.ntmps69
      go_wp2
      refine wp_loop_rounds 2 ?_
      rw [rounds_succ]; go_wp2
      rw [rounds_succ]; go_wp2
      go_ret
      exact ⟨rfl, rfl⟩
  · have hb : (x != 0) = true := by simp [hx]
    go_enter Tryz.func69, Tryz.ntmps69
    go_wp2
    refine wp_loop_rounds 1 ?_
    rw [rounds_succ]; go_wp2
    go_ret
    exact ⟨by first | rfl | (simp [hx]; done), rfl⟩
set_option maxRecDepth 100000 in
theorem impl_compare (r s : Road) : Calls Tryz.prog 44 #[.agg #[.int .i64 r.a, .int .i64 r.b, .int .i64 r.t], .agg #[.int .i64 s.a, .int .i64 s.b, .int .i64 s.t]] w fun e w' => e = .returned (.int .i64 (r.cmp s)) ∧ Below w.heap.size w w' := by
  go_enter Tryz.func44, Tryz.ntmps44
  go_wp2_with fail
  go_still_tail 10, (by kernel_rfl)
  still_call ((compare _ r.a s.a).mono fun e w' h => ⟨h.1, h.2.symm⟩)
  repeat still_step
  still_call ((compare _ r.b s.b).mono fun e w' h => ⟨h.1, h.2.symm⟩)
  refine wpStill_nil ?_
  go_wp2_with fail
  refine (or2 _ (L1.cmp r.a s.a) (L1.cmp r.b s.b) _ (by go_simp) (by go_simp)).mono ?_
  rintro e w1 ⟨rfl, rfl⟩
  go_wp2
  all_goals go_ret
  all_goals exact ⟨by simp [Road.cmp, *], below_alloc (below_drew (below_alloc (below_alloc (Below.refl _ _) _) _)) _⟩
theorem spec_goodRoad (r : Road) (n : Int) (h0 : 0 ≤ n) (h1 : n ≤ 100000000) : Calls Tryz.prog 29 #[.agg #[.int .i64 r.a, .int .i64 r.b, .int .i64 r.t], .int .i64 n] w fun e w' => e = .returned (.bool (r.good n)) ∧ Below w.heap.size w w' := by
  go_enter Tryz.func29, Tryz.ntmps29
  go_wp2_with (go_at_call 58; refine (spec_l1In _ _ _ _).mono ?_; rintro e w' ⟨rfl, rfl⟩)
  all_goals (go_ret; exact ⟨by simp_all [Road.good], below_alloc (Below.refl _ _) _⟩)
theorem impl_goodRoad (r : Road) (n : Int) (h0 : 0 ≤ n) (h1 : n ≤ 100000000) : Calls Tryz.prog 42 #[.agg #[.int .i64 r.a, .int .i64 r.b, .int .i64 r.t], .int .i64 n] w fun e w' => e = .returned (.bool (r.good n)) ∧ Below w.heap.size w w' := by
  go_enter Tryz.func42, Tryz.ntmps42
  go_wp2_with (go_at_call 65; refine (impl_within _ _ _ _).mono ?_; rintro e w' ⟨rfl, rfl⟩)
  all_goals (go_ret; exact ⟨by simp_all [Road.good], below_alloc (Below.refl _ _) _⟩)
theorem spec_before (r s : Road) : Calls Tryz.prog 31 #[.agg #[.int .i64 r.a, .int .i64 r.b, .int .i64 r.t], .agg #[.int .i64 s.a, .int .i64 s.b, .int .i64 s.t]] w fun e w' => e = .returned (.bool (r.lt s)) ∧ Below w.heap.size w w' := by
  go_enter Tryz.func31, Tryz.ntmps31
  go_wp2
  all_goals (go_ret; exact ⟨by simp_all [Road.lt] <;> omega, below_alloc (below_alloc (Below.refl _ _) _) _⟩)
theorem impl_goodVeh (v : Veh) : Calls Tryz.prog 40 #[.agg #[.int .i64 v.room, .int .i64 v.skills, .int .i64 v.home.x, .int .i64 v.home.y, .int .i64 v.home.o, .int .i64 v.home.c, .int .i64 v.home.h]] w fun e w' => e = .returned (.bool v.good) ∧ Below w.heap.size w w' := by
  go_enter Tryz.func40, Tryz.ntmps40
  go_wp2_with (first | (go_at_call 65; refine (impl_within _ _ _ _).mono ?_; rintro e w' ⟨rfl, rfl⟩) | (go_at_call 66; refine (impl_goodPlace _ v.home).mono ?_; rintro e w' ⟨rfl, hb⟩))
  all_goals go_ret
  · exact ⟨by simp [Veh.good, *], bel_call (below_alloc (Below.refl _ _) _) ‹Below _ _ _›⟩
  all_goals exact ⟨by simp [Veh.good, *], below_alloc (Below.refl _ _) _⟩
theorem spec_goodReq (v : Req) : Calls Tryz.prog 28 #[.agg #[.int .i64 v.size, .int .i64 v.tags, .int .i64 v.from_.x, .int .i64 v.from_.y, .int .i64 v.from_.o, .int .i64 v.from_.c, .int .i64 v.from_.h, .int .i64 v.to_.x, .int .i64 v.to_.y, .int .i64 v.to_.o, .int .i64 v.to_.c, .int .i64 v.to_.h]] w fun e w' => e = .returned (.bool v.good) ∧ Below w.heap.size w w' := by
  go_enter Tryz.func28, Tryz.ntmps28
  go_wp2_with (first | (go_at_call 58; refine (spec_l1In _ _ _ _).mono ?_; rintro e w' ⟨rfl, rfl⟩) | (go_at_call 59; ((with_reducible refine (spec_goodPlace _ v.from_).mono ?_); rintro e w1 ⟨rfl, hb1⟩; obtain ⟨hc1, hf1⟩ := bcell hb1)) | (go_at_call 59; ((with_reducible refine (spec_goodPlace _ v.to_).mono ?_); rintro e w2 ⟨rfl, hb2⟩)))
  all_goals go_ret
  all_goals exact ⟨by simp_all [Req.good], by with_reducible repeat (first | refine bel_call ?_ hb2 | refine bel_call ?_ hb1 | exact below_alloc (Below.refl _ _) _)⟩
theorem impl_goodReq (v : Req) : Calls Tryz.prog 41 #[.agg #[.int .i64 v.size, .int .i64 v.tags, .int .i64 v.from_.x, .int .i64 v.from_.y, .int .i64 v.from_.o, .int .i64 v.from_.c, .int .i64 v.from_.h, .int .i64 v.to_.x, .int .i64 v.to_.y, .int .i64 v.to_.o, .int .i64 v.to_.c, .int .i64 v.to_.h]] w fun e w' => e = .returned (.bool v.good) ∧ Below w.heap.size w w' := by
  go_enter Tryz.func41, Tryz.ntmps41
  go_wp2_with (first | (go_at_call 65; refine (impl_within _ _ _ _).mono ?_; rintro e w' ⟨rfl, rfl⟩) | (go_at_call 66; ((with_reducible refine (impl_goodPlace _ v.from_).mono ?_); rintro e w1 ⟨rfl, hb1⟩; obtain ⟨hc1, hf1⟩ := bcell hb1)) | (go_at_call 66; ((with_reducible refine (impl_goodPlace _ v.to_).mono ?_); rintro e w2 ⟨rfl, hb2⟩)))
  all_goals go_ret
  all_goals exact ⟨by simp_all [Req.good], by with_reducible repeat (first | refine bel_call ?_ hb2 | refine bel_call ?_ hb1 | exact below_alloc (Below.refl _ _) _)⟩
theorem spec_nodes (A0 A1 A2 : Option Addr) (n0 n1 n2 c0 c1 c2 : Nat) (h0 : n0 ≤ 1048576) (h1 : n1 ≤ 1048576) : Calls Tryz.prog 30 #[.agg #[.slice A0 n0 c0, .slice A1 n1 c1, .slice A2 n2 c2]] w fun e w' => e = .returned (.int .i64 ((n0 : Int) + 2 * (n1 : Int))) ∧ Below w.heap.size w w' := by
  go_enter Tryz.func30, Tryz.ntmps30
  go_wp2
  go_ret
  exact ⟨rfl, below_alloc (Below.refl _ _) _⟩
theorem impl_vehicles (A0 A1 A2 : Option Addr) (n0 n1 n2 c0 c1 c2 : Nat) (h0 : n0 ≤ 1048576) : Calls Tryz.prog 67 #[.agg #[.slice A0 n0 c0, .slice A1 n1 c1, .slice A2 n2 c2]] w fun e w' => e = .returned (.int .i64 (n0 : Int)) ∧ Below w.heap.size w w' := by
  go_enter Tryz.func67, Tryz.ntmps67
  go_wp2
  go_ret
  exact ⟨rfl, below_alloc (Below.refl _ _) _⟩
theorem impl_requests (A0 A1 A2 : Option Addr) (n0 n1 n2 c0 c1 c2 : Nat) (h1 : n1 ≤ 1048576) : Calls Tryz.prog 68 #[.agg #[.slice A0 n0 c0, .slice A1 n1 c1, .slice A2 n2 c2]] w fun e w' => e = .returned (.int .i64 (n1 : Int)) ∧ Below w.heap.size w w' := by
  go_enter Tryz.func68, Tryz.ntmps68
  go_wp2
  go_ret
  exact ⟨rfl, below_alloc (Below.refl _ _) _⟩
/-- What a region reads stays, and memory only grows. -/
theorem keep3 {w W w1 : World} {g : Nat} {a b c : Value} (h : W.cell? ⟨g, 0, none⟩ = some a ∧ W.cell? ⟨g, 1, none⟩ = some b ∧ W.cell? ⟨g, 2, none⟩ = some c ∧ Below w.heap.size w W) (hb : Below W.heap.size W w1) :
    w1.cell? ⟨g, 0, none⟩ = some a ∧ w1.cell? ⟨g, 1, none⟩ = some b ∧ w1.cell? ⟨g, 2, none⟩ = some c ∧ Below w.heap.size w w1 :=
  ⟨pw_cell_below hb h.1, pw_cell_below hb h.2.1, pw_cell_below hb h.2.2.1, bel_call h.2.2.2 hb⟩
theorem impl_nodes (A0 A1 A2 : Option Addr) (n0 n1 n2 c0 c1 c2 : Nat) (h0 : n0 ≤ 1048576) (h1 : n1 ≤ 1048576) : Calls Tryz.prog 43 #[.agg #[.slice A0 n0 c0, .slice A1 n1 c1, .slice A2 n2 c2]] w fun e w' => e = .returned (.int .i64 ((n0 : Int) + 2 * (n1 : Int))) ∧ Below w.heap.size w w' := by
  go_enter Tryz.func43, Tryz.ntmps43
  go_wp2_with fail
  go_region_held3 (fun w' => w'.cell? ⟨w.heap.size, 0, none⟩ = some (.slice A0 n0 c0) ∧ w'.cell? ⟨w.heap.size, 1, none⟩ = some (.slice A1 n1 c1) ∧ w'.cell? ⟨w.heap.size, 2, none⟩ = some (.slice A2 n2 c2) ∧ Below w.heap.size w w')
    (first | exact ⟨blk_cell (al_new w _) 0, blk_cell (al_new w _) 1, blk_cell (al_new w _) 2, below_drew (below_alloc (Below.refl _ _) _)⟩ | exact keep3 (by assumption) hb1)
    (first | (go_at_call 67; refine (impl_vehicles _ A0 A1 A2 n0 n1 n2 c0 c1 c2 h0).mono ?_; rintro e w1 ⟨rfl, hb1⟩) | (go_at_call 68; refine (impl_requests _ A0 A1 A2 n0 n1 n2 c0 c1 c2 h1).mono ?_; rintro e w1 ⟨rfl, hb1⟩))
  have hB := (by assumption : w1.cell? ⟨w.heap.size, 0, none⟩ = some (.slice A0 n0 c0) ∧ w1.cell? ⟨w.heap.size, 1, none⟩ = some (.slice A1 n1 c1) ∧ w1.cell? ⟨w.heap.size, 2, none⟩ = some (.slice A2 n2 c2) ∧ Below w.heap.size w w1).2.2.2
  have e1 : IntKind.i64.wrap (2 * (n1 : Int)) = 2 * (n1 : Int) := IntWalk.i64_in _ (by omega)
  have e2 : IntKind.i64.wrap ((n0 : Int) + 2 * (n1 : Int)) = (n0 : Int) + 2 * (n1 : Int) := IntWalk.i64_in _ (by omega)
  rw [e1, e2]
  clear e1 e2
  go_wp2
  go_ret
  exact ⟨rfl, hB⟩
end
end Go.Proofs.YtogjkkbhmanbmaaGreatDoor.L1
namespace Go.Proofs.YtogjkkbhmanbmaaGreatDoor.L1
open Go.RowKit Go.Proofs.YtogjkkbhmanbmaaGreatDoorW.PrintWords Go.Proofs.YtogjkkbhmanbmaaGreatDoor.B
set_option linter.unusedVariables false
set_option linter.unusedSimpArgs false
attribute [local go_sem] mk_cell mk_frozen
section
variable (w : World)
end
end Go.Proofs.YtogjkkbhmanbmaaGreatDoor.L1
/- In use: 'refine Grow.wp_region_growB (by kernel_rfl) (by kernel_rfl) ?_', then for each operation lex_skip or lex_do and lex_norm (see gen_valid.py), at the end lex_nil. -/
namespace Go.Proofs.YtogjkkbhmanbmaaGreatDoor.Grow
open Go.RowKit Go.Proofs.YtogjkkbhmanbmaaGreatDoorW.PrintWords Go.Proofs.YtogjkkbhmanbmaaGreatDoor.B
section
variable {P : Program} {ops : Array Oper} {md : Region.Mode} {J : World → Prop}
/-- The operation comes to value v, and J holds behind it. -/
def Upon (P : Program) (J : World → Prop) (v : Value) : Result Next → Prop
  | .ok (.value u) w => u = v ∧ J w
  | .ok .skip w => v = undef ∧ J w
  | .ok (.enter f args) w => Calls P f args w fun e w' => e = .returned v ∧ J w'
  | _ => False
def Gives (P : Program) (ops : Array Oper) (J : World → Prop) (o : Oper) (v : Value) (a : Act) : Prop :=
  (Region.wanted o (yielded ops a.tmps) = true ∧ ∀ w, J w → Upon P J v ((execOp a.eval o).run P w)) ∨ (Region.wanted o (yielded ops a.tmps) = false ∧ v = undef)
/-- The operations one behind the other, as the text has them. -/
def Lex (P : Program) (ops : Array Oper) (J : World → Prop) (Q : Act → Prop) : List Oper → Act → Prop
  | [], a => Q a
  | o :: r, a => ∃ v, Gives P ops J o v a ∧ Lex P ops J Q r (a.put o.dst v)
def AnyJ (P : Program) (md : Region.Mode) (ops : Array Oper) (J : World → Prop) (Q : Act → Prop) : Nat → Array Bool → Act → Prop
  | 0, l, a => Region.ready md ops l = [] ∧ Q a
  | n + 1, l, a => (Region.ready md ops l = [] → Q a) ∧ ∀ i ∈ Region.ready md ops l, ∀ o, ops[i]? = some o → ∃ v, Gives P ops J o v a ∧ AnyJ P md ops J Q n (l.setIfInBounds i true) (a.put o.dst v)
theorem Gives.same {o : Oper} {v : Value} {a a' : Act} (h : Gives P ops J o v a) (he : execOp a'.eval o = execOp a.eval o) (hw : Region.wanted o (yielded ops a'.tmps) = Region.wanted o (yielded ops a.tmps)) : Gives P ops J o v a' := by
  unfold Gives at *
  rw [he, hw]
  exact h
theorem any_first {Q : Act → Prop} {i : Nat} {oi : Oper} {v : Value} (hi : ops[i]? = some oi) (hsel : ∀ (j : Nat) (o : Oper) cs b, ops[j]? = some o → o.op ≠ .select cs b) :
    ∀ (n : Nat) (l : Array Bool) (a : Act),
      (∀ j oj, ops[j]? = some oj → j ≠ i → l.getD j true = false → (∀ e ∈ oj.after, Region.binds md e = true → e.on ≠ i) → oi.apart ops oj = true) →
      i ∈ Region.ready md ops l → Gives P ops J oi v a → AnyJ P md ops J Q n (l.setIfInBounds i true) (a.put oi.dst v) → AnyJ P md ops J Q (n + 1) l a := by
  intro n
  induction n with
  | zero =>
    intro l a _ hr hg H
    refine ⟨fun h => (by rw [h] at hr; cases hr), fun j hj o ho => ?_⟩
    by_cases e : j = i
    · subst e
      rw [hi] at ho; injection ho with ho; subst ho
      exact ⟨v, hg, H⟩
    · have := ready_mono hj e
      rw [H.1] at this; cases this
  | succ n ih =>
    intro l a hfree hr hg H
    refine ⟨fun h => (by rw [h] at hr; cases hr), fun j hj oj hoj => ?_⟩
    by_cases e : j = i
    · subst e
      rw [hi] at hoj; injection hoj with hoj; subst hoj
      exact ⟨v, hg, H⟩
    · obtain ⟨u, hu, hK⟩ := H.2 j (ready_mono hj e) oj hoj
      obtain ⟨hjun, oj', hoj', hall⟩ := mem_ready.1 hj
      rw [hoj] at hoj'; injection hoj' with hoj'; subst hoj'
      have hnot : ∀ e ∈ oj.after, Region.binds md e = true → e.on ≠ i := fun e he hb heq => by
        have h1 := hall e he hb
        have h0 := (mem_ready.1 hr).1
        rw [heq] at h1
        rcases Nat.lt_or_ge i l.size with h' | h'
        · simp [h'] at h0 h1; rw [h0] at h1; cases h1
        · simp [Array.getElem?_eq_none h'] at h1
      obtain ⟨h1, h2, h3⟩ := Oper.apart_spec (hfree j oj hoj e hjun hnot)
      refine ⟨u, hu.same (execOp_put oj (fun cs b => hsel j oj cs b hoj) a oi.dst v h1).symm (wanted_put oj a oi.dst v h1).symm, ?_⟩
      refine ih (l.setIfInBounds j true) _ (fun k ok hk hki hun hno => hfree k ok hk hki ?_ hno) (ready_mono hr (Ne.symm e)) (hg.same (execOp_put oi (fun cs b => hsel i oi cs b hi) a oj.dst u h3) (wanted_put oi a oj.dst u h3)) ?_
      · by_cases hjk : j = k
        · subst hjk; exact hjun
        · rw [getD_set_ne true hjk] at hun; exact hun
      · rw [Array.setIfInBounds_comm _ _ e, ← Act.put_comm a v u h2]
        exact hK
theorem any_lex {Q : Act → Prop} (hs : Region.noSelect ops = true) : ∀ (l : List Oper) (k : Nat) (b : Array Bool) (a : Act), (∀ j, l[j]? = ops[k + j]?) →
    Region.lexFrom md ops l.length k b = true → Lex P ops J Q l a → AnyJ P md ops J Q l.length b a
  | [], _, _, _, _, hB, h => ⟨by simpa [Region.lexFrom] using hB, h⟩
  | o :: l, k, b, a, hl, hB, h => by
    have h0 : ops[k]? = some o := by simpa using (hl 0).symm
    simp only [List.length_cons, Region.lexFrom, Bool.and_eq_true] at hB
    obtain ⟨⟨hr, hf⟩, hB'⟩ := hB
    obtain ⟨v, hg, hK⟩ := h
    exact any_first h0 (Region.noSelect_spec hs) l.length b a (Region.free_spec h0 hf) (by simpa using hr) hg
      (any_lex hs l (k + 1) _ _ (fun j => by have := hl (j + 1); simpa [Nat.add_assoc, Nat.add_comm 1 j] using this) hB' hK)
theorem any_sound {Q : Act → Prop} {Q' : Exit → Act → World → Prop} (hQ : ∀ a w, Q a → J w → Q' .normal a w) : ∀ (n : Nat) (l : Array Bool) (a : Act) (w : World), AnyJ P md ops J Q n l a → J w → wpAny P md ops Q' n l a w
  | 0, _, _, _, h, hJ => ⟨h.1, hQ _ _ h.2 hJ⟩
  | n + 1, l, a, w, h, hJ => by
    refine ⟨fun h0 => hQ _ _ (h.1 h0) hJ, fun i hi => ?_⟩
    obtain ⟨_, o, ho, _⟩ := mem_ready.1 hi
    obtain ⟨v, hg, hK⟩ := h.2 i hi o ho
    unfold wpOp
    simp only [ho]
    rcases hg with ⟨hw, hv⟩ | ⟨hw, rfl⟩
    · simp only [hw, if_true]
      refine .inl ?_
      have hu := hv w hJ
      unfold Oper.wp
      generalize (execOp a.eval o).run P w = r at hu
      cases r with
      | ok x w' =>
        cases x <;> simp only [Upon] at hu <;> simp only [Oper.upon]
        case value u => obtain ⟨rfl, hj⟩ := hu; exact any_sound hQ n _ _ _ hK hj
        case skip => obtain ⟨rfl, hj⟩ := hu; exact any_sound hQ n _ _ _ hK hj
        case enter f args => exact hu.mono fun e w'' ⟨he, hj⟩ => by subst he; exact any_sound hQ n _ _ _ hK hj
      | halt x w' => simp only [Upon] at hu
    · simp only [hw, Bool.false_eq_true, if_false]
      exact any_sound hQ n _ _ _ hK hJ
theorem wp_region_grow {id : Nat} {Q : Exit → Act → World → Prop} {a : Act} {w : World} {l : List Oper} (J : World → Prop) (hm : P.follows .mixedOrders = true) (hB : Region.lexB .any l.toArray = true) (hJ : J { w with drawn := w.drawn + 1 })
    (h : Lex P l.toArray J (fun a' => ∀ w', J w' → Q .normal a' w') l a) : (Code.region id l.toArray true).wp P Q a w := by
  simp only [Region.lexB, Bool.and_eq_true] at hB
  refine wp_region_any hm (any_sound (Q := fun a' => ∀ w', J w' → Q .normal a' w') (fun _ _ hq hj => hq _ hj) _ _ _ _ ?_ hJ)
  have := any_lex (md := .any) (P := P) (J := J) hB.1 l 0 (Array.replicate l.toArray.size false) a (by simp) (by simpa using hB.2) h
  simpa using this
theorem lex_nil {Q : Act → Prop} {a : Act} (h : Q a) : Lex P ops J Q [] a := h
theorem lex_do {Q : Act → Prop} {o : Oper} {r : List Oper} {a : Act} (v : Value) (hw : Region.wanted o (yielded ops a.tmps) = true) (hr : ∀ w, J w → Upon P J v ((execOp a.eval o).run P w)) (h : Lex P ops J Q r (a.put o.dst v)) : Lex P ops J Q (o :: r) a :=
  ⟨v, .inl ⟨hw, hr⟩, h⟩
theorem lex_skip {Q : Act → Prop} {o : Oper} {r : List Oper} {a : Act} (hw : Region.wanted o (yielded ops a.tmps) = false) (h : Lex P ops J Q r (a.put o.dst undef)) : Lex P ops J Q (o :: r) a :=
  ⟨undef, .inr ⟨hw, rfl⟩, h⟩
theorem lex_norm {Q : Act → Prop} {r : List Oper} {a : Act} (h : ∀ K : Act → Prop, (∀ a', Lex P ops J Q r a' → K a') → K a) : Lex P ops J Q r a := h _ fun _ h => h
theorem Upon.val {v : Value} {w : World} (h : J w) : Upon P J v (.ok (.value v) w) := ⟨rfl, h⟩
theorem Upon.skip {w : World} (h : J w) : Upon P J undef (.ok .skip w) := ⟨rfl, h⟩
theorem Upon.call {v : Value} {w : World} {f : FuncId} {args : Array Value} (h : Calls P f args w fun e w' => e = .returned v ∧ J w') : Upon P J v (.ok (.enter f args) w) := h
/-- w1 has grown out of w0. -/
structure Up (w0 w1 : World) : Prop where
  out : Below w0.heap.size w0 w1
/-- A call whose answer is a number and which touches nothing that was there. -/
theorem Upon.callB {v : Value} {w0 w : World} {f : FuncId} {args : Array Value} (hj : Up w0 w) (h : Calls P f args w fun e w' => e = .returned v ∧ Below w.heap.size w w') : Upon P (Up w0) v (.ok (.enter f args) w) := h.mono fun _ _ h => ⟨h.1, ⟨Go.Proofs.YtogjkkbhmanbmaaGreatDoor.B.bel_call hj.out h.2⟩⟩
theorem wp_region_growB {id : Nat} {Q : Exit → Act → World → Prop} {a : Act} {w : World} {l : List Oper} (hm : P.follows .mixedOrders = true) (hB : Region.lexB .any l.toArray = true)
    (h : Lex P l.toArray (Up w) (fun a' => ∀ w', Up w w' → Q .normal a' w') l a) : (Code.region id l.toArray true).wp P Q a w :=
  wp_region_grow _ hm hB ⟨below_drew (Below.refl _ _)⟩ h
end
end Go.Proofs.YtogjkkbhmanbmaaGreatDoor.Grow
