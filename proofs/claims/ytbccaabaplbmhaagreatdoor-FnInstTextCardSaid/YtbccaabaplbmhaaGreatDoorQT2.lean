/- PRINTED WORDS, second file: A REGION THAT DRAWS ITS ORDER, WALKED BY HAND, where its last store writes what its own loads read ('x.f = append(x.f, f(i))'). Plain theorems; no macro, no elab. A claim may hold it (turn the namespace's name).
  A load may be taken first in every world that meets S; behind the operations of ds nothing is shown; sound because each of ds waits for what is taken (Region.lastB). The kernel checks it.
  By an AI agent of Go's test side, Mon Nov 16 2026. No person has read it. Small words for the walks: counted conjunctions, bounds as Bool. A region whose order is open, by one fact J on memory that every operation keeps: each operation gives one value in every world in which J holds (a load of a cell that J names; a call that answers a number, whatever memory it makes). Then the order does not matter. -/
import Derived.OrdersHeld
import Derived.Deep.RegionHeld3
import Derived.Laws.BitsLemmas
import Derived.RowKit
import Derived.Test.YtbccaabaplbmhaaGreatDoorProg
import Derived.Below
import Derived.Deep.Draws
import Derived.Deep.AppendLies
import Derived.Maps.AppendAt
import Derived.OwnWalk
import Derived.Laws.BytesArg
import Derived.Laws.MakeOwn
import Derived.Laws.OwnMore
import Derived.Deep.OwnRows
import Derived.Tactics
import Derived.Lib.ConvBytes
import Derived.Lib.Hide
import Derived.Laws.Slices
import Derived.WalkKit
import Derived.KernelRfl
import Derived.RowKit3
import Derived.Deep.LoopGhost
import Derived.Deep.QuietTactic
import Derived.BigQuiet
import Derived.WideLaws
import Derived.Deep.DeepCutAuto
import Derived.Deep.CutBlock
import Derived.Laws.Rows
import Derived.Lib.AppendStr
import Derived.ArgAppend
import Derived.Laws.IdiomCopy
import Derived.StillTailTactics
import Derived.Deep.RegionWith
import Derived.Test.YtbccaabaplbmhaaGreatDoorQT1
import Derived.Still
namespace Go.Proofs.YtbccaabaplbmhaaGreatDoorW.PrintLast

section
variable {P : Program} {ops : Array Oper} {Q : Exit → Act → World → Prop} {md : Region.Mode} {S : World → Prop} {ds : List Nat}

/-- Operation d waits for operation i, by a chain of at most 'fuel' edges. -/
def Region.reachB (md : Region.Mode) (ops : Array Oper) (i : Nat) : Nat → Nat → Bool
  | 0, _ => false
  | fuel + 1, d => match ops[d]? with
    | some o => o.after.any fun e => Region.binds md e && (e.on == i || Region.reachB md ops i fuel e.on)
    | none => false

/-- Each of ds that has not come up yet waits for number i. -/
def Region.lastB (md : Region.Mode) (ops : Array Oper) (listed : Array Bool) (ds : List Nat) (i : Nat) : Bool :=
  ds.all fun d => listed.getD d true || Region.reachB md ops i ops.size d

def ListedClosed (md : Region.Mode) (ops : Array Oper) (listed : Array Bool) : Prop :=
  ∀ j oj, ops[j]? = some oj → listed.getD j false = true → ∀ e ∈ oj.after, Region.binds md e = true → listed.getD e.on false = true

theorem ListedClosed.set {listed : Array Bool} {i : Nat} (h : ListedClosed md ops listed) (hi : i ∈ Region.ready md ops listed) : ListedClosed md ops (listed.setIfInBounds i true) := by
  obtain ⟨_, oi, hoi, hall⟩ := mem_ready.1 hi
  intro j oj hj hl e he hb
  by_cases hij : i = j
  · subst hij
    have : oj = oi := Option.some.inj (hj.symm.trans hoi)
    subst this
    exact getD_set_true (hall e he hb)
  · rw [getD_set_ne false hij] at hl
    exact getD_set_true (h j oj hj hl e he hb)

/-- Whatever order is picked from here on, AND 'S' HOLDS BEHIND EVERY OPERATION THAT IS CARRIED OUT, those of ds apart. -/
def wpAnyLast (P : Program) (md : Region.Mode) (ops : Array Oper) (Q : Exit → Act → World → Prop) (S : World → Prop) (ds : List Nat) : Nat → Array Bool → Act → World → Prop
  | 0, listed, a, w => Region.ready md ops listed = [] ∧ Q .normal a w
  | fuel + 1, listed, a, w =>
    (Region.ready md ops listed = [] → Q .normal a w) ∧
    ∀ i ∈ Region.ready md ops listed, wpOp P ops Q i (fun a' w' => (i ∉ ds → S w → S w') ∧ wpAnyLast P md ops Q S ds fuel (listed.setIfInBounds i true) a' w') a w

theorem wpAnyLast_all {rs : List Nat} {fuel : Nat} {listed : Array Bool} {a : Act} {w : World} (hr : Region.ready md ops listed = rs) (hne : rs ≠ [])
    (h : ∀ i ∈ rs, wpOp P ops Q i (fun a' w' => (i ∉ ds → S w → S w') ∧ wpAnyLast P md ops Q S ds fuel (listed.setIfInBounds i true) a' w') a w) : wpAnyLast P md ops Q S ds (fuel + 1) listed a w :=
  ⟨fun h0 => absurd (hr ▸ h0) hne, hr ▸ h⟩

end

section
variable {P : Program} {ops : Array Oper} {Q : Exit → Act → World → Prop} {md : Region.Mode} {S : World → Prop} {ds : List Nat}

def AllReadyL (P : Program) (md : Region.Mode) (ops : Array Oper) (Q : Exit → Act → World → Prop) (S : World → Prop) (ds : List Nat) (fuel : Nat) (listed : Array Bool) (a : Act) (w : World) (rs : List Nat) : Prop :=
  ∀ i ∈ rs, wpOp P ops Q i (fun a' w' => (i ∉ ds → S w → S w') ∧ wpAnyLast P md ops Q S ds fuel (listed.setIfInBounds i true) a' w') a w
theorem AllReadyL.nil {fuel : Nat} {listed : Array Bool} {a : Act} {w : World} : AllReadyL P md ops Q S ds fuel listed a w [] := fun _ h => by cases h
theorem AllReadyL.cons {fuel : Nat} {listed : Array Bool} {a : Act} {w : World} {i : Nat} {o : Oper} {rs : List Nat} (ho : ops[i]? = some o) (hd : i ∉ ds)
    (h : ∀ K' : Act → World → Prop, Shut (∀ a w, S w → (S w → wpAnyLast P md ops Q S ds fuel (listed.setIfInBounds i true) a w) → K' a w) → if Region.wanted o (yielded ops a.tmps) = true then Oper.wp P o a w K' Q else K' (a.put o.dst undef) w)
    (hs : AllReadyL P md ops Q S ds fuel listed a w rs) : AllReadyL P md ops Q S ds fuel listed a w (i :: rs) := fun j hj => by
  rcases List.mem_cons.1 hj with rfl | hj
  · exact wpOp_step ho (fun K' hK => h K' (fun a w hS hW => hK a w ⟨fun _ _ => hS, hW hS⟩))
  · exact hs j hj
theorem wpAnyLast_ready {rs : List Nat} {fuel : Nat} {listed : Array Bool} {a : Act} {w : World} (hr : Region.ready md ops listed = rs) (hne : rs ≠ [])
    (h : AllReadyL P md ops Q S ds fuel listed a w rs) : wpAnyLast P md ops Q S ds (fuel + 1) listed a w := wpAnyLast_all hr hne h
def readyB (md : Region.Mode) (ops : Array Oper) (l l' : Array Bool) (i : Nat) : Bool := (Region.ready md ops l == [i]) && (l.setIfInBounds i true == l')
/-- One operation alone may come up now (a call, a build, an append ..): it is run, S is shown behind it. -/
theorem one_ {i : Nat} {N : Option Tmp} {oi : Oper} {fuel : Nat} {l : Array Bool} {a : Act} {w : World} (l' : Array Bool) (hi : ops[i]? = some oi) (hN : oi.dst = N) (hc : readyB md ops l l' i = true) (hd : i ∉ ds)
    (h : ∀ K : Act → World → Prop, Shut (∀ a' w', S w' → (S w' → wpAnyLast P md ops Q S ds fuel l' a' w') → K a' w') → if Region.wanted oi (yielded ops a.tmps) = true then Oper.wp P oi a w K Q else K (a.put N undef) w) :
    wpAnyLast P md ops Q S ds (fuel + 1) l a w := by
  subst hN
  simp only [readyB, Bool.and_eq_true, beq_iff_eq] at hc
  obtain ⟨h1, h2⟩ := hc
  subst h2
  exact wpAnyLast_ready h1 (by simp) (AllReadyL.cons hi hd (fun K hK => h K hK) AllReadyL.nil)
/-! ### Several operations that write or call may come up: each order is walked, what follows is shown once (join_) -/
theorem two_ {i j : Nat} {Ni Nj : Option Tmp} {oi oj : Oper} {fuel : Nat} {l : Array Bool} {a : Act} {w : World} (li lj : Array Bool) (hi : ops[i]? = some oi) (hj : ops[j]? = some oj) (hNi : oi.dst = Ni) (hNj : oj.dst = Nj)
    (hc : (Region.ready md ops l == [i, j] && l.setIfInBounds i true == li && l.setIfInBounds j true == lj) = true) (hdi : i ∉ ds) (hdj : j ∉ ds)
    (h1 : ∀ K : Act → World → Prop, Shut (∀ a' w', S w' → (S w' → wpAnyLast P md ops Q S ds fuel li a' w') → K a' w') → if Region.wanted oi (yielded ops a.tmps) = true then Oper.wp P oi a w K Q else K (a.put Ni undef) w)
    (h2 : ∀ K : Act → World → Prop, Shut (∀ a' w', S w' → (S w' → wpAnyLast P md ops Q S ds fuel lj a' w') → K a' w') → if Region.wanted oj (yielded ops a.tmps) = true then Oper.wp P oj a w K Q else K (a.put Nj undef) w) :
    wpAnyLast P md ops Q S ds (fuel + 1) l a w := by
  subst hNi
  subst hNj
  simp only [Bool.and_eq_true, beq_iff_eq] at hc
  obtain ⟨⟨h3, h4⟩, h5⟩ := hc
  subst h4
  subst h5
  exact wpAnyLast_ready h3 (by simp) (AllReadyL.cons hi hdi (fun K hK => h1 K hK) (AllReadyL.cons hj hdj (fun K hK => h2 K hK) AllReadyL.nil))
theorem three_ {i j k : Nat} {Ni Nj Nk : Option Tmp} {oi oj ok : Oper} {fuel : Nat} {l : Array Bool} {a : Act} {w : World} (li lj lk : Array Bool) (hi : ops[i]? = some oi) (hj : ops[j]? = some oj) (hk : ops[k]? = some ok) (hNi : oi.dst = Ni) (hNj : oj.dst = Nj) (hNk : ok.dst = Nk)
    (hc : (Region.ready md ops l == [i, j, k] && l.setIfInBounds i true == li && l.setIfInBounds j true == lj && l.setIfInBounds k true == lk) = true) (hdi : i ∉ ds) (hdj : j ∉ ds) (hdk : k ∉ ds)
    (h1 : ∀ K : Act → World → Prop, Shut (∀ a' w', S w' → (S w' → wpAnyLast P md ops Q S ds fuel li a' w') → K a' w') → if Region.wanted oi (yielded ops a.tmps) = true then Oper.wp P oi a w K Q else K (a.put Ni undef) w)
    (h2 : ∀ K : Act → World → Prop, Shut (∀ a' w', S w' → (S w' → wpAnyLast P md ops Q S ds fuel lj a' w') → K a' w') → if Region.wanted oj (yielded ops a.tmps) = true then Oper.wp P oj a w K Q else K (a.put Nj undef) w)
    (h3 : ∀ K : Act → World → Prop, Shut (∀ a' w', S w' → (S w' → wpAnyLast P md ops Q S ds fuel lk a' w') → K a' w') → if Region.wanted ok (yielded ops a.tmps) = true then Oper.wp P ok a w K Q else K (a.put Nk undef) w) :
    wpAnyLast P md ops Q S ds (fuel + 1) l a w := by
  subst hNi
  subst hNj
  subst hNk
  simp only [Bool.and_eq_true, beq_iff_eq] at hc
  obtain ⟨⟨⟨h4, h5⟩, h6⟩, h7⟩ := hc
  subst h5
  subst h6
  subst h7
  exact wpAnyLast_ready h4 (by simp) (AllReadyL.cons hi hdi (fun K hK => h1 K hK) (AllReadyL.cons hj hdj (fun K hK => h2 K hK) (AllReadyL.cons hk hdk (fun K hK => h3 K hK) AllReadyL.nil)))
/-- The act with some destinations filled. -/
def putAll : Act → List (Tmp × Value) → Act
  | a, [] => a
  | a, (n, v) :: r => putAll (a.put (some n) v) r
/-- What follows, once: s the values that the orders leave, F what is known of them and of the world. -/
theorem join_ {σ : Type} {fuel : Nat} {l : Array Bool} {a : Act} {w : World} (fuel' : Nat) (l' : Array Bool) (ns : σ → List (Tmp × Value)) (F : σ → World → Prop)
    (hcont : ∀ s w', F s w' → wpAnyLast P md ops Q S ds fuel' l' (putAll a (ns s)) w')
    (h : (∀ s w', F s w' → wpAnyLast P md ops Q S ds fuel' l' (putAll a (ns s)) w') → wpAnyLast P md ops Q S ds fuel l a w) : wpAnyLast P md ops Q S ds fuel l a w := h hcont
end
end Go.Proofs.YtbccaabaplbmhaaGreatDoorW.PrintLast
namespace Go.Proofs.YtbccaabaplbmhaaGreatDoor.B
open Go.RowKit Go.Proofs.YtbccaabaplbmhaaGreatDoorW.PrintWords

def inB (x lo hi : Int) : Bool := decide (lo ≤ x) && decide (x ≤ hi)
def allI (n : Nat) (f : Nat → Bool) : Bool := (List.range n).all f
theorem allI_succ (n : Nat) (f : Nat → Bool) : allI (n + 1) f = (allI n f && f n) := by simp [allI, List.range_succ]
theorem allI_iff {n : Nat} {f : Nat → Bool} : allI n f = true ↔ ∀ k, k < n → f k = true := by simp [allI]
theorem allI_false {n k : Nat} {f : Nat → Bool} (hk : k < n) (h : f k = false) : allI n f = false := by
  cases he : allI n f with
  | false => rfl
  | true => rw [allI_iff.1 he k hk] at h; cases h
/-- Behind a call that makes memory: what stood below reads as before. -/
theorem bcell {W w1 : World} (hb : Below W.heap.size W w1) : (∀ b o, b < W.heap.size → w1.cell? ⟨b, o, none⟩ = W.cell? ⟨b, o, none⟩) ∧ (∀ b o, b < W.heap.size → w1.frozen? ⟨b, o, none⟩ = W.frozen? ⟨b, o, none⟩) :=
  ⟨fun b o h => hb.cell (p := ⟨b, o, none⟩) h, fun b o h => hb.frozen (p := ⟨b, o, none⟩) h⟩

/-- The first k places hold what xs holds there. -/
def Filled {α : Type} (xs : List α) (k : Nat) (ys : List α) : Prop := ys.length = xs.length ∧ ∀ j, j < k → ys[j]? = xs[j]?
theorem Filled.zero {α : Type} (xs : List α) (z : α) : Filled xs 0 (List.replicate xs.length z) := ⟨by simp, fun j hj => by omega⟩
theorem Filled.step {α : Type} {xs ys : List α} {k : Nat} (h : Filled xs k ys) (hk : k < xs.length) (z : α) : Filled xs (k + 1) (ys.set k (xs.getD k z)) := by
  refine ⟨by simp [h.1], fun j hj => ?_⟩
  by_cases e : j = k
  · subst e
    rw [List.getElem?_set_self (by rw [h.1]; exact hk)]
    simp [List.getD_eq_getElem?_getD, List.getElem?_eq_getElem hk]
  · rw [List.getElem?_set_ne (Ne.symm e)]
    exact h.2 j (by omega)
theorem Filled.done {α : Type} {xs ys : List α} {k : Nat} (h : Filled xs k ys) (hk : xs.length ≤ k) : ys = xs := by
  apply List.ext_getElem?
  intro j
  by_cases hj : j < k
  · exact h.2 j hj
  · rw [List.getElem?_eq_none (by rw [h.1]; omega), List.getElem?_eq_none (by omega)]
/-- A world written out field by field reads as the world whose heap it holds. -/
theorem mk_cell (W : World) (t : Nat → Question → Nat) (d : Nat) (o : Os) (u : Array (Nat × ByteArray)) (a : Addr) : ({ heap := W.heap, tape := t, drawn := d, os := o, output := u } : World).cell? a = W.cell? a := rfl
theorem mk_frozen (W : World) (t : Nat → Question → Nat) (d : Nat) (o : Os) (u : Array (Nat × ByteArray)) (a : Addr) : ({ heap := W.heap, tape := t, drawn := d, os := o, output := u } : World).frozen? a = W.frozen? a := rfl
theorem al_new (W : World) (o : Obj) : (W.alloc o).heap[W.heap.size]? = some o := heap_alloc_new W o
theorem al_old {W : World} {o : Obj} {i : Nat} (h : i < W.heap.size) : (W.alloc o).heap[i]? = W.heap[i]? := by
  have e : (W.alloc o).heap = W.heap.push o := rfl
  rw [e, Array.getElem?_push, if_neg (Nat.ne_of_lt h)]
theorem al_size (W : World) (o : Obj) : (W.alloc o).heap.size = W.heap.size + 1 := by
  have e : (W.alloc o).heap = W.heap.push o := rfl
  rw [e, Array.size_push]
/-- A block known whole reads as itself behind a call that makes memory. -/
theorem lay {W w1 : World} (hb : Below W.heap.size W w1) {g : Nat} {cs : Array Value} {t : TypeId} (h : W.heap[g]? = some (.cells cs t (0, 0))) : (∀ o, w1.cell? ⟨g, o, none⟩ = cs[o]?) ∧ ∀ o, w1.frozen? ⟨g, o, none⟩ = false :=
  ⟨fun o => blk_cell (blk_below h hb) o, fun o => blk_frozen (blk_below h hb) o⟩
theorem bel_box {w W : World} (h : Below w.heap.size w W) (o : Obj) : Below w.heap.size w (W.alloc o) := below_alloc h o
theorem blk_box {W : World} {g : Nat} {b : Obj} (h : W.heap[g]? = some b) (o : Obj) : (W.alloc o).heap[g]? = some b := (al_old (blk_lt h)).trans h
theorem bel_call {w W w1 : World} (h : Below w.heap.size w W) (hb : Below W.heap.size W w1) : Below w.heap.size w w1 := below_then h h.size hb
theorem bel_set {w W : World} (h : Below w.heap.size w W) {b o : Nat} (hb : w.heap.size ≤ b) (v : Value) : Below w.heap.size w (W.setCell ⟨b, o, none⟩ v) := h.setCell hb v

theorem keepC5 {w W w1 : World} {a0 a1 a2 a3 a4 : Addr} {v0 v1 v2 v3 v4 : Value} (h : W.cell? a0 = some v0 ∧ W.cell? a1 = some v1 ∧ W.cell? a2 = some v2 ∧ W.cell? a3 = some v3 ∧ W.cell? a4 = some v4 ∧ Below w.heap.size w W) (hb : Below W.heap.size W w1) : w1.cell? a0 = some v0 ∧ w1.cell? a1 = some v1 ∧ w1.cell? a2 = some v2 ∧ w1.cell? a3 = some v3 ∧ w1.cell? a4 = some v4 ∧ Below w.heap.size w w1 := ⟨pw_cell_below hb h.1, pw_cell_below hb h.2.1, pw_cell_below hb h.2.2.1, pw_cell_below hb h.2.2.2.1, pw_cell_below hb h.2.2.2.2.1, bel_call h.2.2.2.2.2 hb⟩
theorem keepC6 {w W w1 : World} {a0 a1 a2 a3 a4 a5 : Addr} {v0 v1 v2 v3 v4 v5 : Value} (h : W.cell? a0 = some v0 ∧ W.cell? a1 = some v1 ∧ W.cell? a2 = some v2 ∧ W.cell? a3 = some v3 ∧ W.cell? a4 = some v4 ∧ W.cell? a5 = some v5 ∧ Below w.heap.size w W) (hb : Below W.heap.size W w1) : w1.cell? a0 = some v0 ∧ w1.cell? a1 = some v1 ∧ w1.cell? a2 = some v2 ∧ w1.cell? a3 = some v3 ∧ w1.cell? a4 = some v4 ∧ w1.cell? a5 = some v5 ∧ Below w.heap.size w w1 := ⟨pw_cell_below hb h.1, pw_cell_below hb h.2.1, pw_cell_below hb h.2.2.1, pw_cell_below hb h.2.2.2.1, pw_cell_below hb h.2.2.2.2.1, pw_cell_below hb h.2.2.2.2.2.1, bel_call h.2.2.2.2.2.2 hb⟩
namespace Kd
open Go.Proofs.YtbccaabaplbmhaaGreatDoorW.PrintWords.Kd
/-- A kind whose cells hang on no memory. -/
def flat {α : Type} (n : Nat) (enc : α → List Value) (hn : ∀ x, (enc x).length = n) (h1 : ∀ x, ∀ u ∈ enc x, u.oneCell' = true) : Kd α where
  sz := n
  E := []
  K := fun _ x cs => cs = enc x
  M := fun _ _ _ x cs => cs = enc x
  K_len := fun h => by rw [h]; exact hn _
  K_one := fun h u hu => by rw [h] at hu; exact h1 _ u hu
  K_below := fun _ h => h
  K_of_M := fun h => h
  M_mono := fun _ h => h
  M_bound := fun h => h
  M_move := fun _ h => h
  M_lower := fun _ h => h
theorem flat_at {α : Type} {n : Nat} {enc : α → List Value} {hn : ∀ x, (enc x).length = n} {h1 : ∀ x, ∀ u ∈ enc x, u.oneCell' = true} {w : World} {A : Option Addr} {m : Nat} {xs : List α}
    (h : (flat n enc hn h1).C w A m xs) (z : α) (k : Nat) (hk : k < m) : ∃ ad, A = some ad ∧ ∀ j u, (enc (xs.getD k z))[j]? = some u → w.cell? (ad.add (k * n + j)) = some u := by
  obtain ⟨ad, c, e, _, hc, hr⟩ := C_get h z (k : Int) (by omega) (by omega)
  refine ⟨ad, e, fun j u hu => ?_⟩
  have := hr j u (by rw [hc]; simpa using hu)
  simp only [Int.toNat_natCast] at this
  exact this
/-- What a call has just made lies in the blocks that it has made. -/
theorem fresh {α : Type} {d : Kd α} {e b base : Nat} {w1 : World} {ok : Nat → Prop} {v : Value} {xs : List α} (h : d.R e w1 b ok v xs) (hb : base ≤ b) : d.R e w1 base (fun k => b ≤ k ∧ k < w1.heap.size) v xs :=
  R_lower (R_mono (R_bound h) fun _ hk => ⟨hk.2.1, hk.2.2.1⟩) hb
theorem flat_cells {α : Type} {n : Nat} {enc : α → List Value} {hn : ∀ x, (enc x).length = n} {h1 : ∀ x, ∀ u ∈ enc x, u.oneCell' = true} {d : Kd α} (hd : d = flat n enc hn h1) {w : World} {A : Option Addr} {m : Nat} {xs : List α}
    (h : d.C w A m xs) (z : α) (k : Nat) (hk : k < m) : ∃ ad, A = some ad ∧ (∀ u, (enc (xs.getD k z))[0]? = some u → w.cell? (ad.add (k * n)) = some u) ∧ ∀ j u, (enc (xs.getD k z))[j + 1]? = some u → w.cell? ⟨(ad.add (k * n)).block, (ad.add (k * n)).off + (j + 1), none⟩ = some u := by
  subst hd
  obtain ⟨ad, e, hc⟩ := flat_at h z k hk
  exact ⟨ad, e, fun u hu => hc 0 u hu, fun j u hu => by rw [← add_field ad _ _ (Nat.succ_pos j)]; exact hc (j + 1) u hu⟩
section
variable {P : Program} {ops : Array Oper} {rest : List Oper} {o : Oper} {a : Act} {Q : Exit → Act → World → Prop} {α : Type} {n : Nat} {enc : α → List Value} {hn : ∀ x, (enc x).length = n} {h1 : ∀ x, ∀ u ∈ enc x, u.oneCell' = true}
/-- out[k] = y, a whole element. -/
theorem flat_store (d : Kd α) (hdd : d = flat n enc hn h1) {w0 W : World} (hN : o.dst = none) (hgd : o.guard = none) (t : TypeId) (p x : Operand) (ho : o.op = .store t p x) {e g m cap o' : Nat} (k : Nat) {xs : List α} (y : α)
    (haddr : a.eval p = .pointer (some ⟨g, o', none⟩)) (hoff : o' = k * n) (hx : (a.eval x).cells.toList = enc y) (ht : (P.info? t).map (·.size) = some n)
    (HO : d.R e W w0.heap.size (fun _ => True) (.slice (some ⟨g, 0, none⟩) m cap) xs) (hk : k < m) (HB : Below w0.heap.size w0 W)
    (h : ∀ w1, d.R e w1 w0.heap.size (fun _ => True) (.slice (some ⟨g, 0, none⟩) m cap) (xs.set k y) → Below w0.heap.size w0 w1 → W.grownBy w1 (some g) → wpList P ops Q rest a w1) : wpList P ops Q (o :: rest) a W := by
  subst hdd
  have hm : m = xs.length := (R_reads' HO).1
  have hz : 0 < xs.length := by omega
  obtain ⟨c, hcl, hcM, hcc, _⟩ := R_elem HO (xs[0]'hz) (k : Int) (by omega) (by omega)
  have hsz : (flat n enc hn h1).sz = n := rfl
  refine R_store (flat n enc hn h1) w0.heap.size hN hgd t p x ho e (k : Int) 0 xs y (a.eval x) (enc y) c (fun _ => True) (fun _ => False) haddr (by rw [hoff, hsz]; simp) rfl hx (by rw [ht, hn]) (h1 y) HO (by omega) (by omega) hcl hcc (by rw [hn, hsz]; omega) ?_ (fun _ hk => hk.elim) HB ?_
  · show _ = enc y
    rw [hsz] at hcl
    rw [Nat.zero_add, hn, List.take_zero, List.nil_append, List.drop_of_length_le (by omega), List.append_nil]
  · intro w1 hr hb hg
    exact h w1 (by simpa using hr) hb hg
end
end Kd
end Go.Proofs.YtbccaabaplbmhaaGreatDoor.B
/- In use: 'refine Grow.wp_region_growB (by kernel_rfl) (by kernel_rfl) ?_', then for each operation lex_skip or lex_do and lex_norm (see gen_valid.py), at the end lex_nil. -/
namespace Go.Proofs.YtbccaabaplbmhaaGreatDoor.Grow
open Go.RowKit Go.Proofs.YtbccaabaplbmhaaGreatDoorW.PrintWords Go.Proofs.YtbccaabaplbmhaaGreatDoor.B
section
variable {P : Program} {ops : Array Oper} {md : Region.Mode} {J : World → Prop}
/-- The operation comes to value v, and J holds behind it. -/
def Upon (P : Program) (J : World → Prop) (v : Value) : Result Next → Prop
  | .ok (.value u) w => u = v ∧ J w
  | .ok .skip w => v = undef ∧ J w
  | .ok (.enter f args) w => Calls P f args w fun e w' => e = .returned v ∧ J w'
  | _ => False
def Gives (P : Program) (ops : Array Oper) (J : World → Prop) (o : Oper) (v : Value) (a : Act) : Prop :=
  (Region.wanted o (yielded ops a.tmps) = true ∧ ∀ w, J w → Upon P J v ((execOp a.eval o).run P w)) ∨ (Region.wanted o (yielded ops a.tmps) = false ∧ v = undef)
/-- The operations one behind the other, as the text has them. -/
def Lex (P : Program) (ops : Array Oper) (J : World → Prop) (Q : Act → Prop) : List Oper → Act → Prop
  | [], a => Q a
  | o :: r, a => ∃ v, Gives P ops J o v a ∧ Lex P ops J Q r (a.put o.dst v)
def AnyJ (P : Program) (md : Region.Mode) (ops : Array Oper) (J : World → Prop) (Q : Act → Prop) : Nat → Array Bool → Act → Prop
  | 0, l, a => Region.ready md ops l = [] ∧ Q a
  | n + 1, l, a => (Region.ready md ops l = [] → Q a) ∧ ∀ i ∈ Region.ready md ops l, ∀ o, ops[i]? = some o → ∃ v, Gives P ops J o v a ∧ AnyJ P md ops J Q n (l.setIfInBounds i true) (a.put o.dst v)
theorem Gives.same {o : Oper} {v : Value} {a a' : Act} (h : Gives P ops J o v a) (he : execOp a'.eval o = execOp a.eval o) (hw : Region.wanted o (yielded ops a'.tmps) = Region.wanted o (yielded ops a.tmps)) : Gives P ops J o v a' := by
  unfold Gives at *
  rw [he, hw]
  exact h
theorem any_first {Q : Act → Prop} {i : Nat} {oi : Oper} {v : Value} (hi : ops[i]? = some oi) (hsel : ∀ (j : Nat) (o : Oper) cs b, ops[j]? = some o → o.op ≠ .select cs b) :
    ∀ (n : Nat) (l : Array Bool) (a : Act),
      (∀ j oj, ops[j]? = some oj → j ≠ i → l.getD j true = false → (∀ e ∈ oj.after, Region.binds md e = true → e.on ≠ i) → oi.apart ops oj = true) →
      i ∈ Region.ready md ops l → Gives P ops J oi v a → AnyJ P md ops J Q n (l.setIfInBounds i true) (a.put oi.dst v) → AnyJ P md ops J Q (n + 1) l a := by
  intro n
  induction n with
  | zero =>
    intro l a _ hr hg H
    refine ⟨fun h => (by rw [h] at hr; cases hr), fun j hj o ho => ?_⟩
    by_cases e : j = i
    · subst e
      rw [hi] at ho; injection ho with ho; subst ho
      exact ⟨v, hg, H⟩
    · have := ready_mono hj e
      rw [H.1] at this; cases this
  | succ n ih =>
    intro l a hfree hr hg H
    refine ⟨fun h => (by rw [h] at hr; cases hr), fun j hj oj hoj => ?_⟩
    by_cases e : j = i
    · subst e
      rw [hi] at hoj; injection hoj with hoj; subst hoj
      exact ⟨v, hg, H⟩
    · obtain ⟨u, hu, hK⟩ := H.2 j (ready_mono hj e) oj hoj
      obtain ⟨hjun, oj', hoj', hall⟩ := mem_ready.1 hj
      rw [hoj] at hoj'; injection hoj' with hoj'; subst hoj'
      have hnot : ∀ e ∈ oj.after, Region.binds md e = true → e.on ≠ i := fun e he hb heq => by
        have h1 := hall e he hb
        have h0 := (mem_ready.1 hr).1
        rw [heq] at h1
        rcases Nat.lt_or_ge i l.size with h' | h'
        · simp [h'] at h0 h1; rw [h0] at h1; cases h1
        · simp [Array.getElem?_eq_none h'] at h1
      obtain ⟨h1, h2, h3⟩ := Oper.apart_spec (hfree j oj hoj e hjun hnot)
      refine ⟨u, hu.same (execOp_put oj (fun cs b => hsel j oj cs b hoj) a oi.dst v h1).symm (wanted_put oj a oi.dst v h1).symm, ?_⟩
      refine ih (l.setIfInBounds j true) _ (fun k ok hk hki hun hno => hfree k ok hk hki ?_ hno) (ready_mono hr (Ne.symm e)) (hg.same (execOp_put oi (fun cs b => hsel i oi cs b hi) a oj.dst u h3) (wanted_put oi a oj.dst u h3)) ?_
      · by_cases hjk : j = k
        · subst hjk; exact hjun
        · rw [getD_set_ne true hjk] at hun; exact hun
      · rw [Array.setIfInBounds_comm _ _ e, ← Act.put_comm a v u h2]
        exact hK
theorem any_lex {Q : Act → Prop} (hs : Region.noSelect ops = true) : ∀ (l : List Oper) (k : Nat) (b : Array Bool) (a : Act), (∀ j, l[j]? = ops[k + j]?) →
    Region.lexFrom md ops l.length k b = true → Lex P ops J Q l a → AnyJ P md ops J Q l.length b a
  | [], _, _, _, _, hB, h => ⟨by simpa [Region.lexFrom] using hB, h⟩
  | o :: l, k, b, a, hl, hB, h => by
    have h0 : ops[k]? = some o := by simpa using (hl 0).symm
    simp only [List.length_cons, Region.lexFrom, Bool.and_eq_true] at hB
    obtain ⟨⟨hr, hf⟩, hB'⟩ := hB
    obtain ⟨v, hg, hK⟩ := h
    exact any_first h0 (Region.noSelect_spec hs) l.length b a (Region.free_spec h0 hf) (by simpa using hr) hg
      (any_lex hs l (k + 1) _ _ (fun j => by have := hl (j + 1); simpa [Nat.add_assoc, Nat.add_comm 1 j] using this) hB' hK)
theorem any_sound {Q : Act → Prop} {Q' : Exit → Act → World → Prop} (hQ : ∀ a w, Q a → J w → Q' .normal a w) : ∀ (n : Nat) (l : Array Bool) (a : Act) (w : World), AnyJ P md ops J Q n l a → J w → wpAny P md ops Q' n l a w
  | 0, _, _, _, h, hJ => ⟨h.1, hQ _ _ h.2 hJ⟩
  | n + 1, l, a, w, h, hJ => by
    refine ⟨fun h0 => hQ _ _ (h.1 h0) hJ, fun i hi => ?_⟩
    obtain ⟨_, o, ho, _⟩ := mem_ready.1 hi
    obtain ⟨v, hg, hK⟩ := h.2 i hi o ho
    unfold wpOp
    simp only [ho]
    rcases hg with ⟨hw, hv⟩ | ⟨hw, rfl⟩
    · simp only [hw, if_true]
      refine .inl ?_
      have hu := hv w hJ
      unfold Oper.wp
      generalize (execOp a.eval o).run P w = r at hu
      cases r with
      | ok x w' =>
        cases x <;> simp only [Upon] at hu <;> simp only [Oper.upon]
        case value u => obtain ⟨rfl, hj⟩ := hu; exact any_sound hQ n _ _ _ hK hj
        case skip => obtain ⟨rfl, hj⟩ := hu; exact any_sound hQ n _ _ _ hK hj
        case enter f args => exact hu.mono fun e w'' ⟨he, hj⟩ => by subst he; exact any_sound hQ n _ _ _ hK hj
      | halt x w' => simp only [Upon] at hu
    · simp only [hw, Bool.false_eq_true, if_false]
      exact any_sound hQ n _ _ _ hK hJ
theorem wp_region_grow {id : Nat} {Q : Exit → Act → World → Prop} {a : Act} {w : World} {l : List Oper} (J : World → Prop) (hm : P.follows .mixedOrders = true) (hB : Region.lexB .any l.toArray = true) (hJ : J { w with drawn := w.drawn + 1 })
    (h : Lex P l.toArray J (fun a' => ∀ w', J w' → Q .normal a' w') l a) : (Code.region id l.toArray true).wp P Q a w := by
  simp only [Region.lexB, Bool.and_eq_true] at hB
  refine wp_region_any hm (any_sound (Q := fun a' => ∀ w', J w' → Q .normal a' w') (fun _ _ hq hj => hq _ hj) _ _ _ _ ?_ hJ)
  have := any_lex (md := .any) (P := P) (J := J) hB.1 l 0 (Array.replicate l.toArray.size false) a (by simp) (by simpa using hB.2) h
  simpa using this
theorem lex_nil {Q : Act → Prop} {a : Act} (h : Q a) : Lex P ops J Q [] a := h
theorem lex_do {Q : Act → Prop} {o : Oper} {r : List Oper} {a : Act} (v : Value) (hw : Region.wanted o (yielded ops a.tmps) = true) (hr : ∀ w, J w → Upon P J v ((execOp a.eval o).run P w)) (h : Lex P ops J Q r (a.put o.dst v)) : Lex P ops J Q (o :: r) a :=
  ⟨v, .inl ⟨hw, hr⟩, h⟩
theorem lex_skip {Q : Act → Prop} {o : Oper} {r : List Oper} {a : Act} (hw : Region.wanted o (yielded ops a.tmps) = false) (h : Lex P ops J Q r (a.put o.dst undef)) : Lex P ops J Q (o :: r) a :=
  ⟨undef, .inr ⟨hw, rfl⟩, h⟩
theorem lex_norm {Q : Act → Prop} {r : List Oper} {a : Act} (h : ∀ K : Act → Prop, (∀ a', Lex P ops J Q r a' → K a') → K a) : Lex P ops J Q r a := h _ fun _ h => h
theorem Upon.val {v : Value} {w : World} (h : J w) : Upon P J v (.ok (.value v) w) := ⟨rfl, h⟩
theorem Upon.skip {w : World} (h : J w) : Upon P J undef (.ok .skip w) := ⟨rfl, h⟩
theorem Upon.call {v : Value} {w : World} {f : FuncId} {args : Array Value} (h : Calls P f args w fun e w' => e = .returned v ∧ J w') : Upon P J v (.ok (.enter f args) w) := h
/-- w1 has grown out of w0. -/
structure Up (w0 w1 : World) : Prop where
  out : Below w0.heap.size w0 w1
/-- A call whose answer is a number and which touches nothing that was there. -/
theorem Upon.callB {v : Value} {w0 w : World} {f : FuncId} {args : Array Value} (hj : Up w0 w) (h : Calls P f args w fun e w' => e = .returned v ∧ Below w.heap.size w w') : Upon P (Up w0) v (.ok (.enter f args) w) := h.mono fun _ _ h => ⟨h.1, ⟨Go.Proofs.YtbccaabaplbmhaaGreatDoor.B.bel_call hj.out h.2⟩⟩
theorem wp_region_growB {id : Nat} {Q : Exit → Act → World → Prop} {a : Act} {w : World} {l : List Oper} (hm : P.follows .mixedOrders = true) (hB : Region.lexB .any l.toArray = true)
    (h : Lex P l.toArray (Up w) (fun a' => ∀ w', Up w w' → Q .normal a' w') l a) : (Code.region id l.toArray true).wp P Q a w :=
  wp_region_grow _ hm hB ⟨below_drew (Below.refl _ _)⟩ h
end
end Go.Proofs.YtbccaabaplbmhaaGreatDoor.Grow
