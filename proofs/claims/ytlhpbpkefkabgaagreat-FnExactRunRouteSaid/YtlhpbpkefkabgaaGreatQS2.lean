/- PRINTED WORDS, second file: A REGION THAT DRAWS ITS ORDER, WALKED BY HAND, where its last store writes what its own loads read ('x.f = append(x.f, f(i))'). Plain theorems; no macro, no elab. A claim may hold it (turn the namespace's name).
  A load may be taken first in every world that meets S; behind the operations of ds nothing is shown; sound because each of ds waits for what is taken (Region.lastB). The kernel checks it.
  By an AI agent of Go's test side, Mon Nov 16 2026. No person has read it. Short words for the texts behind. Small words for the walks: counted conjunctions, bounds as Bool. What the small functions of the instance layer answer: arithmetic, places, vehicles, requests, roads. -/
import Derived.OrdersHeld
import Derived.Deep.RegionHeld3
import Derived.Laws.BitsLemmas
import Derived.RowKit
import Derived.Test.YtlhpbpkefkabgaaGreatQS1
import Derived.Test.YtlhpbpkefkabgaaGreatProg
import Derived.Below
import Derived.Deep.Draws
import Derived.Deep.AppendLies
import Derived.Maps.AppendAt
import Derived.OwnWalk
import Derived.Laws.BytesArg
import Derived.Laws.MakeOwn
import Derived.Laws.OwnMore
import Derived.Deep.OwnRows
import Derived.Tactics
import Derived.Lib.ConvBytes
import Derived.Lib.Hide
import Derived.Laws.Slices
import Derived.WalkKit
import Derived.KernelRfl
import Derived.RowKit3
import Derived.Deep.LoopGhost
import Derived.Deep.QuietTactic
import Derived.BigQuiet
import Derived.WideLaws
import Derived.Deep.DeepCutAuto
import Derived.Deep.CutBlock
import Derived.Laws.Rows
import Derived.Lib.AppendStr
import Derived.ArgAppend
import Derived.Laws.IdiomCopy
import Derived.StillTailTactics
import Derived.Deep.RegionWith
namespace Go.Proofs.YtlhpbpkefkabgaaGreatW.PrintLast

section
variable {P : Program} {ops : Array Oper} {Q : Exit → Act → World → Prop} {md : Region.Mode} {S : World → Prop} {ds : List Nat}

/-- Operation d waits for operation i, by a chain of at most 'fuel' edges. -/
def Region.reachB (md : Region.Mode) (ops : Array Oper) (i : Nat) : Nat → Nat → Bool
  | 0, _ => false
  | fuel + 1, d => match ops[d]? with
    | some o => o.after.any fun e => Region.binds md e && (e.on == i || Region.reachB md ops i fuel e.on)
    | none => false

/-- Each of ds that has not come up yet waits for number i. -/
def Region.lastB (md : Region.Mode) (ops : Array Oper) (listed : Array Bool) (ds : List Nat) (i : Nat) : Bool :=
  ds.all fun d => listed.getD d true || Region.reachB md ops i ops.size d

def ListedClosed (md : Region.Mode) (ops : Array Oper) (listed : Array Bool) : Prop :=
  ∀ j oj, ops[j]? = some oj → listed.getD j false = true → ∀ e ∈ oj.after, Region.binds md e = true → listed.getD e.on false = true

theorem ListedClosed.set {listed : Array Bool} {i : Nat} (h : ListedClosed md ops listed) (hi : i ∈ Region.ready md ops listed) : ListedClosed md ops (listed.setIfInBounds i true) := by
  obtain ⟨_, oi, hoi, hall⟩ := mem_ready.1 hi
  intro j oj hj hl e he hb
  by_cases hij : i = j
  · subst hij
    have : oj = oi := Option.some.inj (hj.symm.trans hoi)
    subst this
    exact getD_set_true (hall e he hb)
  · rw [getD_set_ne false hij] at hl
    exact getD_set_true (h j oj hj hl e he hb)

/-- Whatever order is picked from here on, AND 'S' HOLDS BEHIND EVERY OPERATION THAT IS CARRIED OUT, those of ds apart. -/
def wpAnyLast (P : Program) (md : Region.Mode) (ops : Array Oper) (Q : Exit → Act → World → Prop) (S : World → Prop) (ds : List Nat) : Nat → Array Bool → Act → World → Prop
  | 0, listed, a, w => Region.ready md ops listed = [] ∧ Q .normal a w
  | fuel + 1, listed, a, w =>
    (Region.ready md ops listed = [] → Q .normal a w) ∧
    ∀ i ∈ Region.ready md ops listed, wpOp P ops Q i (fun a' w' => (i ∉ ds → S w → S w') ∧ wpAnyLast P md ops Q S ds fuel (listed.setIfInBounds i true) a' w') a w

theorem wpAny_of_last : ∀ (fuel : Nat) (listed : Array Bool) (a : Act) (w : World), wpAnyLast P md ops Q S ds fuel listed a w → wpAny P md ops Q fuel listed a w
  | 0, _, _, _, h => h
  | fuel + 1, _, _, _, h => ⟨h.1, fun i hi => wpOp_mono (fun a' w' h' => wpAny_of_last fuel _ a' w' h'.2) (h.2 i hi)⟩

/-- Take number 'i' first, which yields whatever the world: no S is asked for, nor that anything waits for it. -/
theorem wpAnyLast_any {i : Nat} {oi : Oper} {v : Value} (hi : ops[i]? = some oi) (hsel : ∀ (j : Nat) (o : Oper) cs b, ops[j]? = some o → o.op ≠ .select cs b)
    (hQ : ∀ c a w, Q (.panic c) (a.put oi.dst v) w → Q (.panic c) a w) :
    ∀ (fuel : Nat) (listed : Array Bool) (a : Act) (w : World),
      (∀ j oj, ops[j]? = some oj → j ≠ i → listed.getD j true = false → (∀ e ∈ oj.after, Region.binds md e = true → e.on ≠ i) → oi.apart ops oj = true) →
      i ∈ Region.ready md ops listed → Yields P ops oi v a →
      wpAnyLast P md ops Q S ds fuel (listed.setIfInBounds i true) (a.put oi.dst v) w → wpAnyLast P md ops Q S ds (fuel + 1) listed a w := by
  intro fuel
  induction fuel with
  | zero =>
    intro listed a w _ hr hy H
    refine ⟨fun h => (by rw [h] at hr; cases hr), fun j hj => ?_⟩
    by_cases hji : j = i
    · subst hji; exact (hy.yieldsIf (S := fun _ => True)).wpOp hi trivial ⟨fun _ h => h, H⟩
    · have := ready_mono hj hji
      rw [H.1] at this
      cases this
  | succ fuel ih =>
    intro listed a w hfree hr hy H
    refine ⟨fun h => (by rw [h] at hr; cases hr), fun j hj => ?_⟩
    by_cases hji : j = i
    · subst hji; exact (hy.yieldsIf (S := fun _ => True)).wpOp hi trivial ⟨fun _ h => h, H⟩
    · have h1 := H.2 j (ready_mono hj hji)
      obtain ⟨hjun, oj, hoj, hall⟩ := mem_ready.1 hj
      have hiun := (mem_ready.1 hr).1
      have hnot : ∀ e ∈ oj.after, Region.binds md e = true → e.on ≠ i := fun e he hb heq => by
        have h1 := hall e he hb
        rw [heq] at h1
        rcases Nat.lt_or_ge i listed.size with h' | h'
        · simp [h'] at hiun h1; rw [hiun] at h1; cases h1
        · simp [Array.getElem?_eq_none h'] at h1
      have h2 := wpOp_put hoj (hfree j oj hoj hji hjun hnot) (fun cs b => hsel i oi cs b hi) (fun cs b => hsel j oj cs b hoj) hQ hy h1
      have hfree' : ∀ k ok, ops[k]? = some ok → k ≠ i → (listed.setIfInBounds j true).getD k true = false →
          (∀ e ∈ ok.after, Region.binds md e = true → e.on ≠ i) → oi.apart ops ok = true := fun k ok hk hki hun hno => by
        refine hfree k ok hk hki ?_ hno
        by_cases hjk : j = k
        · subst hjk; exact hjun
        · rw [getD_set_ne true hjk] at hun; exact hun
      refine wpOp_mono (fun a' w' h3 => ⟨h3.2.1, ih (listed.setIfInBounds j true) a' w' hfree' (ready_mono hr (Ne.symm hji)) h3.1 ?_⟩) h2
      rw [Array.setIfInBounds_comm _ _ hji]
      exact h3.2.2

theorem wpAnyLast_all {rs : List Nat} {fuel : Nat} {listed : Array Bool} {a : Act} {w : World} (hr : Region.ready md ops listed = rs) (hne : rs ≠ [])
    (h : ∀ i ∈ rs, wpOp P ops Q i (fun a' w' => (i ∉ ds → S w → S w') ∧ wpAnyLast P md ops Q S ds fuel (listed.setIfInBounds i true) a' w') a w) : wpAnyLast P md ops Q S ds (fuel + 1) listed a w :=
  ⟨fun h0 => absurd (hr ▸ h0) hne, hr ▸ h⟩

theorem wpAnyLast_done {listed : Array Bool} {a : Act} {w : World} (hr : Region.ready md ops listed = []) (h : Q .normal a w) :
    ∀ fuel, wpAnyLast P md ops Q S ds fuel listed a w
  | 0 => ⟨hr, h⟩
  | _ + 1 => ⟨fun _ => h, by rw [hr]; simp⟩

theorem wp_region_last {id : Nat} {a : Act} {w : World} (hm : P.follows .mixedOrders = true)
    (h : wpAnyLast P .any ops Q S ds ops.size (Array.replicate ops.size false) a { w with drawn := w.drawn + 1 }) : (Code.region id ops true).wp P Q a w :=
  wp_region_any hm (wpAny_of_last _ _ _ _ h)

end

section
variable {P : Program} {ops : Array Oper} {Q : Exit → Act → World → Prop} {md : Region.Mode} {S : World → Prop} {ds : List Nat}

def AllReadyL (P : Program) (md : Region.Mode) (ops : Array Oper) (Q : Exit → Act → World → Prop) (S : World → Prop) (ds : List Nat) (fuel : Nat) (listed : Array Bool) (a : Act) (w : World) (rs : List Nat) : Prop :=
  ∀ i ∈ rs, wpOp P ops Q i (fun a' w' => (i ∉ ds → S w → S w') ∧ wpAnyLast P md ops Q S ds fuel (listed.setIfInBounds i true) a' w') a w
theorem AllReadyL.nil {fuel : Nat} {listed : Array Bool} {a : Act} {w : World} : AllReadyL P md ops Q S ds fuel listed a w [] := fun _ h => by cases h
theorem AllReadyL.cons {fuel : Nat} {listed : Array Bool} {a : Act} {w : World} {i : Nat} {o : Oper} {rs : List Nat} (ho : ops[i]? = some o) (hd : i ∉ ds)
    (h : ∀ K' : Act → World → Prop, Shut (∀ a w, S w → (S w → wpAnyLast P md ops Q S ds fuel (listed.setIfInBounds i true) a w) → K' a w) → if Region.wanted o (yielded ops a.tmps) = true then Oper.wp P o a w K' Q else K' (a.put o.dst undef) w)
    (hs : AllReadyL P md ops Q S ds fuel listed a w rs) : AllReadyL P md ops Q S ds fuel listed a w (i :: rs) := fun j hj => by
  rcases List.mem_cons.1 hj with rfl | hj
  · exact wpOp_step ho (fun K' hK => h K' (fun a w hS hW => hK a w ⟨fun _ _ => hS, hW hS⟩))
  · exact hs j hj
/-- Behind an operation of ds nothing is shown. -/
theorem AllReadyL.cons_last {fuel : Nat} {listed : Array Bool} {a : Act} {w : World} {i : Nat} {o : Oper} {rs : List Nat} (ho : ops[i]? = some o) (hd : i ∈ ds)
    (h : ∀ K' : Act → World → Prop, Shut (∀ a w, wpAnyLast P md ops Q S ds fuel (listed.setIfInBounds i true) a w → K' a w) → if Region.wanted o (yielded ops a.tmps) = true then Oper.wp P o a w K' Q else K' (a.put o.dst undef) w)
    (hs : AllReadyL P md ops Q S ds fuel listed a w rs) : AllReadyL P md ops Q S ds fuel listed a w (i :: rs) := fun j hj => by
  rcases List.mem_cons.1 hj with rfl | hj
  · exact wpOp_step ho (fun K' hK => h K' (fun a w hW => hK a w ⟨fun hn => absurd hd hn, hW⟩))
  · exact hs j hj
theorem wpAnyLast_ready {rs : List Nat} {fuel : Nat} {listed : Array Bool} {a : Act} {w : World} (hr : Region.ready md ops listed = rs) (hne : rs ≠ [])
    (h : AllReadyL P md ops Q S ds fuel listed a w rs) : wpAnyLast P md ops Q S ds (fuel + 1) listed a w := wpAnyLast_all hr hne h
/-- THE SAME STEPS WITH WHAT HAS COME UP WRITTEN OUT (a literal array of Bools) and one check a step: quicker, and what is printed stays short. -/
theorem start_ {id n : Nat} {a : Act} {w : World} (l : Array Bool) (hm : P.follows .mixedOrders = true) (hn : ops.size = n) (hl : Array.replicate n false = l) (hS : S w.drew)
    (h : S w.drew → wpAnyLast P .any ops Q S ds n l a w.drew) : (Code.region id ops true).wp P Q a w := by
  subst hn
  subst hl
  exact wp_region_last hm (h hS)
def anyB (md : Region.Mode) (ops : Array Oper) (l l' : Array Bool) (i : Nat) : Bool :=
  Region.noSelect ops && Region.free md ops l i && (Region.ready md ops l).contains i && (l.setIfInBounds i true == l')
/-- An operation that yields in every world (a move, a number, an address): taken first wherever it may come up, behind a store too. -/
theorem pure_ {i : Nat} {N : Option Tmp} {oi : Oper} {v : Value} {fuel : Nat} {l : Array Bool} {a : Act} {w : World} (l' : Array Bool) (hi : ops[i]? = some oi) (hN : oi.dst = N) (hc : anyB md ops l l' i = true)
    (hQ : ∀ c a w, Q (.panic c) (a.put oi.dst v) w → Q (.panic c) a w) (hy : Yields P ops oi v a) {a' : Act} (ha : a.put N v = a')
    (h : wpAnyLast P md ops Q S ds fuel l' a' w) : wpAnyLast P md ops Q S ds (fuel + 1) l a w := by
  subst ha
  subst hN
  simp only [anyB, Bool.and_eq_true, beq_iff_eq] at hc
  obtain ⟨⟨⟨h1, h2⟩, h3⟩, h6⟩ := hc
  subst h6
  exact wpAnyLast_any hi (Region.noSelect_spec h1) hQ fuel l a w (Region.free_spec hi h2) (by simpa using h3) hy h
def readyB (md : Region.Mode) (ops : Array Oper) (l l' : Array Bool) (i : Nat) : Bool := (Region.ready md ops l == [i]) && (l.setIfInBounds i true == l')
/-- One operation alone may come up now (a call, a build, an append ..): it is run, S is shown behind it. -/
theorem one_ {i : Nat} {N : Option Tmp} {oi : Oper} {fuel : Nat} {l : Array Bool} {a : Act} {w : World} (l' : Array Bool) (hi : ops[i]? = some oi) (hN : oi.dst = N) (hc : readyB md ops l l' i = true) (hd : i ∉ ds)
    (h : ∀ K : Act → World → Prop, Shut (∀ a' w', S w' → (S w' → wpAnyLast P md ops Q S ds fuel l' a' w') → K a' w') → if Region.wanted oi (yielded ops a.tmps) = true then Oper.wp P oi a w K Q else K (a.put N undef) w) :
    wpAnyLast P md ops Q S ds (fuel + 1) l a w := by
  subst hN
  simp only [readyB, Bool.and_eq_true, beq_iff_eq] at hc
  obtain ⟨h1, h2⟩ := hc
  subst h2
  exact wpAnyLast_ready h1 (by simp) (AllReadyL.cons hi hd (fun K hK => h K hK) AllReadyL.nil)
/-- The same for one of ds: nothing is shown behind it. -/
theorem last_ {i : Nat} {N : Option Tmp} {oi : Oper} {fuel : Nat} {l : Array Bool} {a : Act} {w : World} (l' : Array Bool) (hi : ops[i]? = some oi) (hN : oi.dst = N) (hc : readyB md ops l l' i = true) (hd : i ∈ ds)
    (h : ∀ K : Act → World → Prop, Shut (∀ a' w', wpAnyLast P md ops Q S ds fuel l' a' w' → K a' w') → if Region.wanted oi (yielded ops a.tmps) = true then Oper.wp P oi a w K Q else K (a.put N undef) w) :
    wpAnyLast P md ops Q S ds (fuel + 1) l a w := by
  subst hN
  simp only [readyB, Bool.and_eq_true, beq_iff_eq] at hc
  obtain ⟨h1, h2⟩ := hc
  subst h2
  exact wpAnyLast_ready h1 (by simp) (AllReadyL.cons_last hi hd (fun K hK => h K hK) AllReadyL.nil)
theorem done_ {l : Array Bool} {a : Act} {w : World} {n : Nat} (hr : (Region.ready md ops l == []) = true) (h : Q .normal a w) : wpAnyLast P md ops Q S ds n l a w := wpAnyLast_done (by simpa using hr) h n
/-! ### Several operations that write or call may come up: each order is walked, what follows is shown once (join_) -/
theorem two_ {i j : Nat} {Ni Nj : Option Tmp} {oi oj : Oper} {fuel : Nat} {l : Array Bool} {a : Act} {w : World} (li lj : Array Bool) (hi : ops[i]? = some oi) (hj : ops[j]? = some oj) (hNi : oi.dst = Ni) (hNj : oj.dst = Nj)
    (hc : (Region.ready md ops l == [i, j] && l.setIfInBounds i true == li && l.setIfInBounds j true == lj) = true) (hdi : i ∉ ds) (hdj : j ∉ ds)
    (h1 : ∀ K : Act → World → Prop, Shut (∀ a' w', S w' → (S w' → wpAnyLast P md ops Q S ds fuel li a' w') → K a' w') → if Region.wanted oi (yielded ops a.tmps) = true then Oper.wp P oi a w K Q else K (a.put Ni undef) w)
    (h2 : ∀ K : Act → World → Prop, Shut (∀ a' w', S w' → (S w' → wpAnyLast P md ops Q S ds fuel lj a' w') → K a' w') → if Region.wanted oj (yielded ops a.tmps) = true then Oper.wp P oj a w K Q else K (a.put Nj undef) w) :
    wpAnyLast P md ops Q S ds (fuel + 1) l a w := by
  subst hNi
  subst hNj
  simp only [Bool.and_eq_true, beq_iff_eq] at hc
  obtain ⟨⟨h3, h4⟩, h5⟩ := hc
  subst h4
  subst h5
  exact wpAnyLast_ready h3 (by simp) (AllReadyL.cons hi hdi (fun K hK => h1 K hK) (AllReadyL.cons hj hdj (fun K hK => h2 K hK) AllReadyL.nil))
theorem three_ {i j k : Nat} {Ni Nj Nk : Option Tmp} {oi oj ok : Oper} {fuel : Nat} {l : Array Bool} {a : Act} {w : World} (li lj lk : Array Bool) (hi : ops[i]? = some oi) (hj : ops[j]? = some oj) (hk : ops[k]? = some ok) (hNi : oi.dst = Ni) (hNj : oj.dst = Nj) (hNk : ok.dst = Nk)
    (hc : (Region.ready md ops l == [i, j, k] && l.setIfInBounds i true == li && l.setIfInBounds j true == lj && l.setIfInBounds k true == lk) = true) (hdi : i ∉ ds) (hdj : j ∉ ds) (hdk : k ∉ ds)
    (h1 : ∀ K : Act → World → Prop, Shut (∀ a' w', S w' → (S w' → wpAnyLast P md ops Q S ds fuel li a' w') → K a' w') → if Region.wanted oi (yielded ops a.tmps) = true then Oper.wp P oi a w K Q else K (a.put Ni undef) w)
    (h2 : ∀ K : Act → World → Prop, Shut (∀ a' w', S w' → (S w' → wpAnyLast P md ops Q S ds fuel lj a' w') → K a' w') → if Region.wanted oj (yielded ops a.tmps) = true then Oper.wp P oj a w K Q else K (a.put Nj undef) w)
    (h3 : ∀ K : Act → World → Prop, Shut (∀ a' w', S w' → (S w' → wpAnyLast P md ops Q S ds fuel lk a' w') → K a' w') → if Region.wanted ok (yielded ops a.tmps) = true then Oper.wp P ok a w K Q else K (a.put Nk undef) w) :
    wpAnyLast P md ops Q S ds (fuel + 1) l a w := by
  subst hNi
  subst hNj
  subst hNk
  simp only [Bool.and_eq_true, beq_iff_eq] at hc
  obtain ⟨⟨⟨h4, h5⟩, h6⟩, h7⟩ := hc
  subst h5
  subst h6
  subst h7
  exact wpAnyLast_ready h4 (by simp) (AllReadyL.cons hi hdi (fun K hK => h1 K hK) (AllReadyL.cons hj hdj (fun K hK => h2 K hK) (AllReadyL.cons hk hdk (fun K hK => h3 K hK) AllReadyL.nil)))
/-- The act with some destinations filled. -/
def putAll : Act → List (Tmp × Value) → Act
  | a, [] => a
  | a, (n, v) :: r => putAll (a.put (some n) v) r
/-- What follows, once: s the values that the orders leave, F what is known of them and of the world. -/
theorem join_ {σ : Type} {fuel : Nat} {l : Array Bool} {a : Act} {w : World} (fuel' : Nat) (l' : Array Bool) (ns : σ → List (Tmp × Value)) (F : σ → World → Prop)
    (hcont : ∀ s w', F s w' → wpAnyLast P md ops Q S ds fuel' l' (putAll a (ns s)) w')
    (h : (∀ s w', F s w' → wpAnyLast P md ops Q S ds fuel' l' (putAll a (ns s)) w') → wpAnyLast P md ops Q S ds fuel l a w) : wpAnyLast P md ops Q S ds fuel l a w := h hcont
/-- The act written out. -/
theorem norm_ {fuel : Nat} {l : Array Bool} {a a' : Act} {w : World} (ha : a = a') (h : wpAnyLast P md ops Q S ds fuel l a' w) : wpAnyLast P md ops Q S ds fuel l a w := by
  subst ha
  exact h
/-- An operation that yields a value (and may make memory). -/
theorem value_ {oi : Oper} {N : Option Tmp} {a : Act} {w w1 : World} {v : Value} {K : Act → World → Prop} (hw : Region.wanted oi (yielded ops a.tmps) = true) (hN : oi.dst = N) (hrun : (execOp a.eval oi).run P w = .ok (.value v) w1)
    (h : K (a.put N v) w1) : if Region.wanted oi (yielded ops a.tmps) = true then Oper.wp P oi a w K Q else K (a.put N undef) w := by
  rw [if_pos hw]
  subst hN
  unfold Oper.wp
  rw [hrun]
  exact h
theorem i64_w (n : Int) : IntKind.i64.wrap n = Go.RowKit.wrap64 n := by unfold Go.RowKit.wrap64; exact IntKind.wrap_i64 n
theorem i32_w (n : Int) : IntKind.i32.wrap n = Go.RowKit.wrap32 n := by unfold Go.RowKit.wrap32; exact IntKind.wrap_i32 n
end
end Go.Proofs.YtlhpbpkefkabgaaGreatW.PrintLast
namespace Go.Proofs.YtlhpbpkefkabgaaGreat.B
open Go.RowKit Go.Proofs.YtlhpbpkefkabgaaGreatW.PrintWords
theorem sA {p : Prop} (h : p) : Aside0 p := Aside0.mk h
theorem pC {w w1 : World} (h : Below w.heap.size w w1) {a : Addr} {v : Value} (hc : w.cell? a = some v) : w1.cell? a = some v := pw_cell_below h hc
theorem bB {w w1 : World} {g : Nat} {o : Obj} (h : w.heap[g]? = some o) (hb : Below w.heap.size w w1) : w1.heap[g]? = some o := blk_below h hb
theorem bA {w W : World} (h : Below w.heap.size w W) (o : Obj) : Below w.heap.size w (W.alloc o) := below_alloc h o
theorem one_all {vs : List Value} (h : vs.all Value.oneCell' = true) : ∀ v, v ∈ vs → v.oneCell' = true := List.all_eq_true.1 h
end Go.Proofs.YtlhpbpkefkabgaaGreat.B
namespace Go.Proofs.YtlhpbpkefkabgaaGreat.B
open Go.RowKit Go.Proofs.YtlhpbpkefkabgaaGreatW.PrintWords

def inB (x lo hi : Int) : Bool := decide (lo ≤ x) && decide (x ≤ hi)
def allI (n : Nat) (f : Nat → Bool) : Bool := (List.range n).all f
theorem allI_succ (n : Nat) (f : Nat → Bool) : allI (n + 1) f = (allI n f && f n) := by simp [allI, List.range_succ]
theorem allI_iff {n : Nat} {f : Nat → Bool} : allI n f = true ↔ ∀ k, k < n → f k = true := by simp [allI]
theorem allI_false {n k : Nat} {f : Nat → Bool} (hk : k < n) (h : f k = false) : allI n f = false := by
  cases he : allI n f with
  | false => rfl
  | true => rw [allI_iff.1 he k hk] at h; cases h
theorem allI_congr {n : Nat} {f g : Nat → Bool} (h : ∀ k, k < n → f k = g k) : allI n f = allI n g := by
  rw [Bool.eq_iff_iff, allI_iff, allI_iff]
  exact ⟨fun a k hk => h k hk ▸ a k hk, fun a k hk => (h k hk).symm ▸ a k hk⟩

/-- Behind a call that makes memory: what stood below reads as before. -/
theorem bcell {W w1 : World} (hb : Below W.heap.size W w1) : (∀ b o, b < W.heap.size → w1.cell? ⟨b, o, none⟩ = W.cell? ⟨b, o, none⟩) ∧ (∀ b o, b < W.heap.size → w1.frozen? ⟨b, o, none⟩ = W.frozen? ⟨b, o, none⟩) :=
  ⟨fun b o h => hb.cell (p := ⟨b, o, none⟩) h, fun b o h => hb.frozen (p := ⟨b, o, none⟩) h⟩

/-- The first k places hold what xs holds there. -/
def Filled {α : Type} (xs : List α) (k : Nat) (ys : List α) : Prop := ys.length = xs.length ∧ ∀ j, j < k → ys[j]? = xs[j]?
theorem Filled.zero {α : Type} (xs : List α) (z : α) : Filled xs 0 (List.replicate xs.length z) := ⟨by simp, fun j hj => by omega⟩
theorem Filled.step {α : Type} {xs ys : List α} {k : Nat} (h : Filled xs k ys) (hk : k < xs.length) (z : α) : Filled xs (k + 1) (ys.set k (xs.getD k z)) := by
  refine ⟨by simp [h.1], fun j hj => ?_⟩
  by_cases e : j = k
  · subst e
    rw [List.getElem?_set_self (by rw [h.1]; exact hk)]
    simp [List.getD_eq_getElem?_getD, List.getElem?_eq_getElem hk]
  · rw [List.getElem?_set_ne (Ne.symm e)]
    exact h.2 j (by omega)
theorem Filled.done {α : Type} {xs ys : List α} {k : Nat} (h : Filled xs k ys) (hk : xs.length ≤ k) : ys = xs := by
  apply List.ext_getElem?
  intro j
  by_cases hj : j < k
  · exact h.2 j hj
  · rw [List.getElem?_eq_none (by rw [h.1]; omega), List.getElem?_eq_none (by omega)]
/-- A world written out field by field reads as the world whose heap it holds. -/
theorem mk_cell (W : World) (t : Nat → Question → Nat) (d : Nat) (o : Os) (u : Array (Nat × ByteArray)) (a : Addr) : ({ heap := W.heap, tape := t, drawn := d, os := o, output := u } : World).cell? a = W.cell? a := rfl
theorem mk_frozen (W : World) (t : Nat → Question → Nat) (d : Nat) (o : Os) (u : Array (Nat × ByteArray)) (a : Addr) : ({ heap := W.heap, tape := t, drawn := d, os := o, output := u } : World).frozen? a = W.frozen? a := rfl
theorem al_new (W : World) (o : Obj) : (W.alloc o).heap[W.heap.size]? = some o := heap_alloc_new W o
theorem al_old {W : World} {o : Obj} {i : Nat} (h : i < W.heap.size) : (W.alloc o).heap[i]? = W.heap[i]? := by
  have e : (W.alloc o).heap = W.heap.push o := rfl
  rw [e, Array.getElem?_push, if_neg (Nat.ne_of_lt h)]
theorem al_size (W : World) (o : Obj) : (W.alloc o).heap.size = W.heap.size + 1 := by
  have e : (W.alloc o).heap = W.heap.push o := rfl
  rw [e, Array.size_push]
/-- A block known whole reads as itself behind a call that makes memory. -/
theorem lay {W w1 : World} (hb : Below W.heap.size W w1) {g : Nat} {cs : Array Value} {t : TypeId} (h : W.heap[g]? = some (.cells cs t (0, 0))) : (∀ o, w1.cell? ⟨g, o, none⟩ = cs[o]?) ∧ ∀ o, w1.frozen? ⟨g, o, none⟩ = false :=
  ⟨fun o => blk_cell (blk_below h hb) o, fun o => blk_frozen (blk_below h hb) o⟩
theorem bel_box {w W : World} (h : Below w.heap.size w W) (o : Obj) : Below w.heap.size w (W.alloc o) := below_alloc h o
theorem blk_box {W : World} {g : Nat} {b : Obj} (h : W.heap[g]? = some b) (o : Obj) : (W.alloc o).heap[g]? = some b := (al_old (blk_lt h)).trans h
theorem bel_call {w W w1 : World} (h : Below w.heap.size w W) (hb : Below W.heap.size W w1) : Below w.heap.size w w1 := below_then h h.size hb
theorem bel_set {w W : World} (h : Below w.heap.size w W) {b o : Nat} (hb : w.heap.size ≤ b) (v : Value) : Below w.heap.size w (W.setCell ⟨b, o, none⟩ v) := h.setCell hb v

theorem keepC6 {w W w1 : World} {a0 a1 a2 a3 a4 a5 : Addr} {v0 v1 v2 v3 v4 v5 : Value} (h : W.cell? a0 = some v0 ∧ W.cell? a1 = some v1 ∧ W.cell? a2 = some v2 ∧ W.cell? a3 = some v3 ∧ W.cell? a4 = some v4 ∧ W.cell? a5 = some v5 ∧ Below w.heap.size w W) (hb : Below W.heap.size W w1) : w1.cell? a0 = some v0 ∧ w1.cell? a1 = some v1 ∧ w1.cell? a2 = some v2 ∧ w1.cell? a3 = some v3 ∧ w1.cell? a4 = some v4 ∧ w1.cell? a5 = some v5 ∧ Below w.heap.size w w1 := ⟨pw_cell_below hb h.1, pw_cell_below hb h.2.1, pw_cell_below hb h.2.2.1, pw_cell_below hb h.2.2.2.1, pw_cell_below hb h.2.2.2.2.1, pw_cell_below hb h.2.2.2.2.2.1, bel_call h.2.2.2.2.2.2 hb⟩
theorem keepC10 {w W w1 : World} {a0 a1 a2 a3 a4 a5 a6 a7 a8 a9 : Addr} {v0 v1 v2 v3 v4 v5 v6 v7 v8 v9 : Value} (h : W.cell? a0 = some v0 ∧ W.cell? a1 = some v1 ∧ W.cell? a2 = some v2 ∧ W.cell? a3 = some v3 ∧ W.cell? a4 = some v4 ∧ W.cell? a5 = some v5 ∧ W.cell? a6 = some v6 ∧ W.cell? a7 = some v7 ∧ W.cell? a8 = some v8 ∧ W.cell? a9 = some v9 ∧ Below w.heap.size w W) (hb : Below W.heap.size W w1) : w1.cell? a0 = some v0 ∧ w1.cell? a1 = some v1 ∧ w1.cell? a2 = some v2 ∧ w1.cell? a3 = some v3 ∧ w1.cell? a4 = some v4 ∧ w1.cell? a5 = some v5 ∧ w1.cell? a6 = some v6 ∧ w1.cell? a7 = some v7 ∧ w1.cell? a8 = some v8 ∧ w1.cell? a9 = some v9 ∧ Below w.heap.size w w1 := ⟨pw_cell_below hb h.1, pw_cell_below hb h.2.1, pw_cell_below hb h.2.2.1, pw_cell_below hb h.2.2.2.1, pw_cell_below hb h.2.2.2.2.1, pw_cell_below hb h.2.2.2.2.2.1, pw_cell_below hb h.2.2.2.2.2.2.1, pw_cell_below hb h.2.2.2.2.2.2.2.1, pw_cell_below hb h.2.2.2.2.2.2.2.2.1, pw_cell_below hb h.2.2.2.2.2.2.2.2.2.1, bel_call h.2.2.2.2.2.2.2.2.2.2 hb⟩
namespace Kd
open Go.Proofs.YtlhpbpkefkabgaaGreatW.PrintWords.Kd
/-- A kind whose cells hang on no memory. -/
def flat {α : Type} (n : Nat) (enc : α → List Value) (hn : ∀ x, (enc x).length = n) (h1 : ∀ x, ∀ u ∈ enc x, u.oneCell' = true) : Kd α where
  sz := n
  E := []
  K := fun _ x cs => cs = enc x
  M := fun _ _ _ x cs => cs = enc x
  K_len := fun h => by rw [h]; exact hn _
  K_one := fun h u hu => by rw [h] at hu; exact h1 _ u hu
  K_below := fun _ h => h
  K_of_M := fun h => h
  M_mono := fun _ h => h
  M_bound := fun h => h
  M_move := fun _ h => h
  M_lower := fun _ h => h
theorem flat_at {α : Type} {n : Nat} {enc : α → List Value} {hn : ∀ x, (enc x).length = n} {h1 : ∀ x, ∀ u ∈ enc x, u.oneCell' = true} {w : World} {A : Option Addr} {m : Nat} {xs : List α}
    (h : (flat n enc hn h1).C w A m xs) (z : α) (k : Nat) (hk : k < m) : ∃ ad, A = some ad ∧ ∀ j u, (enc (xs.getD k z))[j]? = some u → w.cell? (ad.add (k * n + j)) = some u := by
  obtain ⟨ad, c, e, _, hc, hr⟩ := C_get h z (k : Int) (by omega) (by omega)
  refine ⟨ad, e, fun j u hu => ?_⟩
  have := hr j u (by rw [hc]; simpa using hu)
  simp only [Int.toNat_natCast] at this
  exact this
/-- What a call has just made lies in the blocks that it has made. -/
theorem fresh {α : Type} {d : Kd α} {e b base : Nat} {w1 : World} {ok : Nat → Prop} {v : Value} {xs : List α} (h : d.R e w1 b ok v xs) (hb : base ≤ b) : d.R e w1 base (fun k => b ≤ k ∧ k < w1.heap.size) v xs :=
  R_lower (R_mono (R_bound h) fun _ hk => ⟨hk.2.1, hk.2.2.1⟩) hb
theorem flat_cells {α : Type} {n : Nat} {enc : α → List Value} {hn : ∀ x, (enc x).length = n} {h1 : ∀ x, ∀ u ∈ enc x, u.oneCell' = true} {d : Kd α} (hd : d = flat n enc hn h1) {w : World} {A : Option Addr} {m : Nat} {xs : List α}
    (h : d.C w A m xs) (z : α) (k : Nat) (hk : k < m) : ∃ ad, A = some ad ∧ (∀ u, (enc (xs.getD k z))[0]? = some u → w.cell? (ad.add (k * n)) = some u) ∧ ∀ j u, (enc (xs.getD k z))[j + 1]? = some u → w.cell? ⟨(ad.add (k * n)).block, (ad.add (k * n)).off + (j + 1), none⟩ = some u := by
  subst hd
  obtain ⟨ad, e, hc⟩ := flat_at h z k hk
  exact ⟨ad, e, fun u hu => hc 0 u hu, fun j u hu => by rw [← add_field ad _ _ (Nat.succ_pos j)]; exact hc (j + 1) u hu⟩
section
variable {P : Program} {ops : Array Oper} {rest : List Oper} {o : Oper} {a : Act} {Q : Exit → Act → World → Prop} {α : Type} {n : Nat} {enc : α → List Value} {hn : ∀ x, (enc x).length = n} {h1 : ∀ x, ∀ u ∈ enc x, u.oneCell' = true}
/-- make([]T, m). -/
theorem flat_make (d : Kd α) (hdd : d = flat n enc hn h1) {w0 W : World} (N : Tmp) (hd : o.dst = some N) (hgd : o.guard = none) (t : TypeId) (x y : Operand) (ho : o.op = .makeSlice t x y) (m : Nat) (hx : a.eval x = .int .i64 m) (hy : a.eval y = .int .i64 m)
    (e : Nat) (ht : P.underlying t = some (.slice e)) (z0 : α) (bytes : Nat) (hinfo : (P.info? e).map (fun i => (i.zero.map (·.cells.toList), i.size, i.bytes)) = some (some (enc z0), n, bytes)) (hs0 : 0 < n) (hb0 : 0 < bytes)
    (hl : m * bytes ≤ 281474976710656) (HB : Below w0.heap.size w0 W)
    (h : ∀ v1 w1, d.R e w1 w0.heap.size (fun _ => True) v1 (List.replicate m z0) → Below w0.heap.size w0 w1 → W.grownBy w1 none → wpList P ops Q rest (a.put (some N) v1) w1) : wpList P ops Q (o :: rest) a W := by
  subst hdd
  obtain ⟨i, hi, hz⟩ := Option.map_eq_some_iff.1 hinfo
  simp only [Prod.mk.injEq] at hz
  obtain ⟨hz0, hz1, hz2⟩ := hz
  obtain ⟨z, hz3, hz4⟩ := Option.map_eq_some_iff.1 hz0
  refine R_make (flat n enc hn h1) w0.heap.size e hgd hd t x y ho (m : Int) hx hy ht z bytes (by rw [hi]; simp only [Option.map_some, hz3, hz1, hz2]; rfl) (by rw [← Array.length_toList, hz4]; exact hn z0) hs0 hb0 z0 (ok := fun _ => True) (okp := fun _ => True) (by rw [hz4]; rfl) (fun _ _ => trivial) trivial (by omega) (by simpa using hl) HB HB.size ?_
  intro v1 w1 hr hb hg _
  rw [hd]
  exact h v1 w1 (by simpa using hr) hb hg
/-- out[k] = y, a whole element. -/
theorem flat_store (d : Kd α) (hdd : d = flat n enc hn h1) {w0 W : World} (hN : o.dst = none) (hgd : o.guard = none) (t : TypeId) (p x : Operand) (ho : o.op = .store t p x) {e g m cap o' : Nat} (k : Nat) {xs : List α} (y : α)
    (haddr : a.eval p = .pointer (some ⟨g, o', none⟩)) (hoff : o' = k * n) (hx : (a.eval x).cells.toList = enc y) (ht : (P.info? t).map (·.size) = some n)
    (HO : d.R e W w0.heap.size (fun _ => True) (.slice (some ⟨g, 0, none⟩) m cap) xs) (hk : k < m) (HB : Below w0.heap.size w0 W)
    (h : ∀ w1, d.R e w1 w0.heap.size (fun _ => True) (.slice (some ⟨g, 0, none⟩) m cap) (xs.set k y) → Below w0.heap.size w0 w1 → W.grownBy w1 (some g) → wpList P ops Q rest a w1) : wpList P ops Q (o :: rest) a W := by
  subst hdd
  have hm : m = xs.length := (R_reads' HO).1
  have hz : 0 < xs.length := by omega
  obtain ⟨c, hcl, hcM, hcc, _⟩ := R_elem HO (xs[0]'hz) (k : Int) (by omega) (by omega)
  have hsz : (flat n enc hn h1).sz = n := rfl
  refine R_store (flat n enc hn h1) w0.heap.size hN hgd t p x ho e (k : Int) 0 xs y (a.eval x) (enc y) c (fun _ => True) (fun _ => False) haddr (by rw [hoff, hsz]; simp) rfl hx (by rw [ht, hn]) (h1 y) HO (by omega) (by omega) hcl hcc (by rw [hn, hsz]; omega) ?_ (fun _ hk => hk.elim) HB ?_
  · show _ = enc y
    rw [hsz] at hcl
    rw [Nat.zero_add, hn, List.take_zero, List.nil_append, List.drop_of_length_le (by omega), List.append_nil]
  · intro w1 hr hb hg
    exact h w1 (by simpa using hr) hb hg
end
end Kd
theorem bC {w W w1 : World} (h : Below w.heap.size w W) (hb : Below W.heap.size W w1) : Below w.heap.size w w1 := bel_call h hb
theorem lay0 {W : World} {g : Nat} {cs : Array Value} {t : TypeId} (h : W.heap[g]? = some (.cells cs t (0, 0))) : (∀ o, W.cell? ⟨g, o, none⟩ = cs[o]?) ∧ ∀ o, W.frozen? ⟨g, o, none⟩ = false := lay (Below.refl _ _) h
theorem opens1 (w : World) (a : Obj) : Aside0 (Below w.heap.size w (w.alloc a)) ∧ Aside0 ((w.alloc a).heap[w.heap.size]? = some a) ∧ Aside0 ((w.alloc a).heap.size = w.heap.size + 1) :=
  ⟨⟨below_alloc (Below.refl w.heap.size w) a⟩, ⟨by have h := al_new w a; exact h⟩, ⟨by simp only [al_size]⟩⟩
theorem opens2 (w : World) (a b : Obj) : Aside0 (Below w.heap.size w ((w.alloc a).alloc b)) ∧ Aside0 (((w.alloc a).alloc b).heap[w.heap.size]? = some a) ∧ Aside0 (((w.alloc a).alloc b).heap[w.heap.size + 1]? = some b) ∧ Aside0 (((w.alloc a).alloc b).heap.size = w.heap.size + 2) :=
  ⟨⟨below_alloc (below_alloc (Below.refl w.heap.size w) a) b⟩, ⟨by have h := al_new w a; replace h := blk_box h b; exact h⟩, ⟨by have h := al_new (w.alloc a) b; simp only [al_size] at h; exact h⟩, ⟨by simp only [al_size]⟩⟩
theorem opens3 (w : World) (a b c : Obj) : Aside0 (Below w.heap.size w (((w.alloc a).alloc b).alloc c)) ∧ Aside0 ((((w.alloc a).alloc b).alloc c).heap[w.heap.size]? = some a) ∧ Aside0 ((((w.alloc a).alloc b).alloc c).heap[w.heap.size + 1]? = some b) ∧ Aside0 ((((w.alloc a).alloc b).alloc c).heap[w.heap.size + 1 + 1]? = some c) ∧ Aside0 ((((w.alloc a).alloc b).alloc c).heap.size = w.heap.size + 3) :=
  ⟨⟨below_alloc (below_alloc (below_alloc (Below.refl w.heap.size w) a) b) c⟩, ⟨by have h := al_new w a; replace h := blk_box h b; replace h := blk_box h c; exact h⟩, ⟨by have h := al_new (w.alloc a) b; simp only [al_size] at h; replace h := blk_box h c; exact h⟩, ⟨by have h := al_new ((w.alloc a).alloc b) c; simp only [al_size] at h; exact h⟩, ⟨by simp only [al_size]⟩⟩
theorem opens4 (w : World) (a b c d : Obj) : Aside0 (Below w.heap.size w ((((w.alloc a).alloc b).alloc c).alloc d)) ∧ Aside0 (((((w.alloc a).alloc b).alloc c).alloc d).heap[w.heap.size]? = some a) ∧ Aside0 (((((w.alloc a).alloc b).alloc c).alloc d).heap[w.heap.size + 1]? = some b) ∧ Aside0 (((((w.alloc a).alloc b).alloc c).alloc d).heap[w.heap.size + 1 + 1]? = some c) ∧ Aside0 (((((w.alloc a).alloc b).alloc c).alloc d).heap[w.heap.size + 1 + 1 + 1]? = some d) ∧ Aside0 (((((w.alloc a).alloc b).alloc c).alloc d).heap.size = w.heap.size + 4) :=
  ⟨⟨below_alloc (below_alloc (below_alloc (below_alloc (Below.refl w.heap.size w) a) b) c) d⟩, ⟨by have h := al_new w a; replace h := blk_box h b; replace h := blk_box h c; replace h := blk_box h d; exact h⟩, ⟨by have h := al_new (w.alloc a) b; simp only [al_size] at h; replace h := blk_box h c; replace h := blk_box h d; exact h⟩, ⟨by have h := al_new ((w.alloc a).alloc b) c; simp only [al_size] at h; replace h := blk_box h d; exact h⟩, ⟨by have h := al_new (((w.alloc a).alloc b).alloc c) d; simp only [al_size] at h; exact h⟩, ⟨by simp only [al_size]⟩⟩
end Go.Proofs.YtlhpbpkefkabgaaGreat.B
namespace Go.Proofs.YtlhpbpkefkabgaaGreat.L1
open Go.RowKit Go.Proofs.YtlhpbpkefkabgaaGreatW.PrintWords Go.Proofs.YtlhpbpkefkabgaaGreat.B
set_option linter.unusedVariables false
set_option linter.unusedSimpArgs false

structure Place where (x y o c h : Int)
structure Veh where (room skills : Int) (home : Place)
structure Req where (size tags : Int) (from_ to_ : Place)
structure Road where (a b t : Int)
def Place.enc (p : Place) : List Value := [.int .i64 p.x, .int .i64 p.y, .int .i64 p.o, .int .i64 p.c, .int .i64 p.h]
def Veh.enc (v : Veh) : List Value := [.int .i64 v.room, .int .i64 v.skills, .int .i64 v.home.x, .int .i64 v.home.y, .int .i64 v.home.o, .int .i64 v.home.c, .int .i64 v.home.h]
def Req.enc (r : Req) : List Value := [.int .i64 r.size, .int .i64 r.tags, .int .i64 r.from_.x, .int .i64 r.from_.y, .int .i64 r.from_.o, .int .i64 r.from_.c, .int .i64 r.from_.h, .int .i64 r.to_.x, .int .i64 r.to_.y, .int .i64 r.to_.o, .int .i64 r.to_.c, .int .i64 r.to_.h]
def Road.enc (r : Road) : List Value := [.int .i64 r.a, .int .i64 r.b, .int .i64 r.t]
def kVeh : Kd Veh := Kd.flat 7 Veh.enc (fun _ => rfl) (by intro x u hu; simp [Veh.enc] at hu; rcases hu with rfl | rfl | rfl | rfl | rfl | rfl | rfl <;> rfl)
def kReq : Kd Req := Kd.flat 12 Req.enc (fun _ => rfl) (by intro x u hu; simp [Req.enc] at hu; rcases hu with rfl | rfl | rfl | rfl | rfl | rfl | rfl | rfl | rfl | rfl | rfl | rfl <;> rfl)
def kRoad : Kd Road := Kd.flat 3 Road.enc (fun _ => rfl) (by intro x u hu; simp [Road.enc] at hu; rcases hu with rfl | rfl | rfl <;> rfl)
def Place.val (p : Place) : Value := .agg #[.int .i64 p.x, .int .i64 p.y, .int .i64 p.o, .int .i64 p.c, .int .i64 p.h]
def zP : Place := ⟨0, 0, 0, 0, 0⟩
def zV : Veh := ⟨0, 0, zP⟩
def zQ : Req := ⟨0, 0, zP, zP⟩
def zR : Road := ⟨0, 0, 0⟩

def Place.good (p : Place) : Bool := inB p.x (-10000) 10000 && inB p.y (-10000) 10000 && inB p.o 0 p.c && decide (p.c ≤ 1000000) && inB p.h 0 1000000
def Veh.good (v : Veh) : Bool := inB v.room 0 1000000 && inB v.skills 0 65535 && v.home.good
def Req.good (r : Req) : Bool := inB r.size 0 10000 && inB r.tags 0 65535 && r.from_.good && r.to_.good
def Road.good (r : Road) (n : Int) : Bool := inB r.a 0 (n - 1) && inB r.b 0 (n - 1) && r.a != r.b && inB r.t 0 100000
def Road.lt (r s : Road) : Bool := decide (r.a < s.a ∨ (r.a = s.a ∧ r.b < s.b))

section
variable (w : World)
theorem spec_l1In (x lo hi : Int) : Calls Tryz.prog 47 #[.int .i64 x, .int .i64 lo, .int .i64 hi] w fun e w' => e = .returned (.bool (inB x lo hi)) ∧ w = w' := by
  go_enter Tryz.func47, Tryz.ntmps47
  go_wp2
  all_goals (go_ret; exact ⟨by simp [inB, *] <;> omega, rfl⟩)
theorem impl_within (x lo hi : Int) : Calls Tryz.prog 79 #[.int .i64 x, .int .i64 lo, .int .i64 hi] w fun e w' => e = .returned (.bool (inB x lo hi)) ∧ w = w' := by
  go_enter Tryz.func79, Tryz.ntmps79
  go_wp2
  all_goals (go_ret; exact ⟨by simp [inB, *] <;> omega, rfl⟩)

theorem spec_goodPlace (p : Place) : Calls Tryz.prog 121 #[.agg #[.int .i64 p.x, .int .i64 p.y, .int .i64 p.o, .int .i64 p.c, .int .i64 p.h]] w fun e w' => e = .returned (.bool p.good) ∧ Below w.heap.size w w' := by
  go_enter Tryz.func121, Tryz.ntmps121
  go_wp2_with (go_at_call 47; refine (spec_l1In _ _ _ _).mono ?_; rintro e w' ⟨rfl, rfl⟩)
  all_goals (go_ret; exact ⟨by simp [Place.good, *] <;> omega, (Below.refl _ _).alloc (Nat.le_refl _) _⟩)
theorem impl_goodPlace (p : Place) : Calls Tryz.prog 156 #[.agg #[.int .i64 p.x, .int .i64 p.y, .int .i64 p.o, .int .i64 p.c, .int .i64 p.h]] w fun e w' => e = .returned (.bool p.good) ∧ Below w.heap.size w w' := by
  go_enter Tryz.func156, Tryz.ntmps156
  go_wp2_with (go_at_call 79; refine (impl_within _ _ _ _).mono ?_; rintro e w' ⟨rfl, rfl⟩)
  all_goals (go_ret; refine ⟨?_, (Below.refl _ _).alloc (Nat.le_refl _) _⟩; simp_all [Place.good, inB] <;> omega)

theorem spec_goodVeh (v : Veh) : Calls Tryz.prog 86 #[.agg #[.int .i64 v.room, .int .i64 v.skills, .int .i64 v.home.x, .int .i64 v.home.y, .int .i64 v.home.o, .int .i64 v.home.c, .int .i64 v.home.h]] w fun e w' => e = .returned (.bool v.good) ∧ Below w.heap.size w w' := by
  go_enter Tryz.func86, Tryz.ntmps86
  go_wp2_with (first | (go_at_call 47; refine (spec_l1In _ _ _ _).mono ?_; rintro e w' ⟨rfl, rfl⟩) | (go_at_call 121; refine (spec_goodPlace _ v.home).mono ?_; rintro e w' ⟨rfl, hb⟩))
  all_goals go_ret
  · exact ⟨by simp [Veh.good, *], ((Below.refl _ _).alloc (Nat.le_refl _) _).trans (‹Below _ _ _›.mono (by simp))⟩
  all_goals exact ⟨by simp [Veh.good, *], (Below.refl _ _).alloc (Nat.le_refl _) _⟩
end
end Go.Proofs.YtlhpbpkefkabgaaGreat.L1
