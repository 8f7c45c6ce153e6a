/- The text of an instance, plain: decimal numerals, tags, lines. -/
import Derived.Test.YteefopaoodfapaaDoorL1h
import Derived.Test.YteefopaoodfapaaDoorG2
import Derived.Lib.ItoaNum
namespace Go.Proofs.YteefopaoodfapaaDoor.L1
open Go.RowKit Go.Proofs.YteefopaoodfapaaDoorW.PrintWords Go.Proofs.YteefopaoodfapaaDoor.B
set_option linter.unusedVariables false
set_option linter.unusedSimpArgs false
def digs (z : Nat) : List Int := if z < 10 then [((48 + z : Nat) : Int)] else digs (z / 10) ++ [((48 + z % 10 : Nat) : Int)]
termination_by z
decreasing_by omega
theorem digs_small {z : Nat} (h : z < 10) : digs z = [((48 + z : Nat) : Int)] := by rw [digs]; exact if_pos h
theorem digs_big {z : Nat} (h : ¬ z < 10) : digs z = digs (z / 10) ++ [((48 + z % 10 : Nat) : Int)] := by rw [digs]; exact if_neg h
theorem digs_len (k : Nat) : ∀ z, z < 10 ^ (k + 1) → (digs z).length ≤ k + 1 := by
  induction k with
  | zero => intro z h; rw [digs_small (by simpa using h)]; simp
  | succ k ih =>
    intro z h
    by_cases hz : z < 10
    · rw [digs_small hz]; simp
    · rw [digs_big hz, List.length_append]
      have := ih (z / 10) (by rw [Nat.div_lt_iff_lt_mul (by decide)]; rw [Nat.pow_succ] at h; exact h)
      simp only [List.length_cons, List.length_nil]
      omega
def ofU (l : List UInt8) : List Int := l.map fun b => (b.toNat : Int)
theorem digs_dec (z : Nat) : digs z = ofU (Lib.decDigits z) := by
  induction z using Nat.strongRecOn with
  | _ z ih =>
    by_cases h : z < 10
    · rw [digs_small h, Lib.decDigits, dif_pos h]
      simp only [ofU, List.map_cons, List.map_nil, UInt8.toNat_ofNat']
      congr 1; omega
    · have e : Lib.decDigits z = Lib.decDigits (z / 10) ++ [UInt8.ofNat (48 + z % 10)] := by rw [Lib.decDigits, dif_neg h]
      rw [digs_big h, ih (z / 10) (by omega), e]
      simp only [ofU, List.map_append, List.map_cons, List.map_nil, UInt8.toNat_ofNat']
      congr 2; omega
def dec (n : Int) : List Int := if n < 0 then 45 :: digs (-n).toNat else digs n.toNat
theorem dec_itoa (n : Int) : dec n = ofU (Lib.itoa n) := by
  unfold dec Lib.itoa
  split
  · rw [digs_dec]
    show _ = _ :: _
    rw [show (-n).toNat = n.natAbs by omega]
    rfl
  · exact digs_dec _
theorem dec_len {n : Int} (h : -9000000000 ≤ n ∧ n ≤ 9000000000) : (dec n).length ≤ 11 := by
  unfold dec
  split
  · have := digs_len 9 (-n).toNat (by omega); simp only [List.length_cons]; omega
  · have := digs_len 9 n.toNat (by omega); omega
def tagAt (s : Int) (t : Nat) : List Int := if s / 2 ^ t % 2 = 1 then [((97 + t : Nat) : Int)] else []
def tagsTo (s : Int) (k : Nat) : List Int := (List.range k).flatMap (tagAt s)
theorem tagsTo_succ (s : Int) (k : Nat) : tagsTo s (k + 1) = tagsTo s k ++ tagAt s k := by simp [tagsTo, List.range_succ]
theorem tagsTo_len (s : Int) : ∀ k, (tagsTo s k).length ≤ k
  | 0 => by simp [tagsTo]
  | k + 1 => by
    have := tagsTo_len s k
    rw [tagsTo_succ, List.length_append]
    have : (tagAt s k).length ≤ 1 := by unfold tagAt; split <;> simp
    omega
def tagT (s : Int) : List Int := if (tagsTo s 16).length = 0 then [45] else tagsTo s 16
theorem tagT_len (s : Int) : (tagT s).length ≤ 16 := by
  unfold tagT
  split
  · simp
  · exact tagsTo_len s 16
/-- fields with blanks behind each; fields with blanks between. -/
def wds (fs : List (List Int)) : List Int := fs.flatMap (· ++ [32])
def joinTo (fs : List (List Int)) : Nat → List Int
  | 0 => []
  | k + 1 => (joinTo fs k ++ if k = 0 then [] else [32]) ++ fs.getD k []
def lineOf (fs : List (List Int)) : List Int := joinTo fs fs.length ++ [10]
theorem wds_append (a b : List (List Int)) : wds (a ++ b) = wds a ++ wds b := by simp [wds]
theorem wds_one (a : List Int) : wds [a] = a ++ [32] := by simp [wds]
theorem wds_join (fs : List (List Int)) : ∀ k, k < fs.length → wds (fs.take (k + 1)) = joinTo fs (k + 1) ++ [32]
  | 0, h => by
    rw [List.take_add_one, List.getElem?_eq_getElem h]
    simp [wds, joinTo, List.getD_eq_getElem?_getD, h]
  | k + 1, h => by
    rw [List.take_add_one, wds_append, wds_join fs k (by omega), List.getElem?_eq_getElem h]
    show _ = ((_ ++ if k + 1 = 0 then [] else [32]) ++ _) ++ [32]
    rw [if_neg (by omega), List.getD_eq_getElem?_getD, List.getElem?_eq_getElem h]
    simp [wds]
theorem wds_line {fs : List (List Int)} (h : fs ≠ []) : ∃ l, wds fs = l ++ [32] ∧ lineOf fs = l ++ [10] := by
  obtain ⟨n, hn⟩ : ∃ n, fs.length = n + 1 := ⟨fs.length - 1, by have := List.length_pos_iff.2 h; omega⟩
  refine ⟨joinTo fs (n + 1), ?_, by unfold lineOf; rw [hn]⟩
  have := wds_join fs n (by omega)
  rw [← hn, List.take_length] at this
  rw [this, hn]
theorem line_len {fs : List (List Int)} (h : fs ≠ []) : (lineOf fs).length = (wds fs).length := by
  obtain ⟨l, h1, h2⟩ := wds_line h
  rw [h1, h2]; simp
theorem wds_len {fs : List (List Int)} (h : ∀ f, f ∈ fs → f.length ≤ 16) : (wds fs).length ≤ 17 * fs.length := by
  induction fs with
  | nil => simp [wds]
  | cons a t ih =>
    have h1 := ih fun f hf => h f (List.mem_cons_of_mem _ hf)
    have h2 := h a List.mem_cons_self
    rw [show a :: t = [a] ++ t from rfl, wds_append, wds_one]
    simp only [List.length_append, List.length_cons, List.length_nil] at *
    omega
def Place.flds (p : Place) : List (List Int) := [dec p.x, dec p.y, dec p.o, dec p.c, dec p.h]
def wVehicle : List Int := [118, 101, 104, 105, 99, 108, 101]
def wRequest : List Int := [114, 101, 113, 117, 101, 115, 116]
def wRoad : List Int := [114, 111, 97, 100]
def Veh.flds (v : Veh) : List (List Int) := [wVehicle, dec v.room, tagT v.skills] ++ v.home.flds
def Req.flds (v : Req) : List (List Int) := ([wRequest, dec v.size, tagT v.tags] ++ v.from_.flds) ++ v.to_.flds
def Road.flds (v : Road) : List (List Int) := [wRoad, dec v.a, dec v.b, dec v.t]
def Place.fit (p : Place) : Prop := ∀ q, q ∈ [p.x, p.y, p.o, p.c, p.h] → -1000000000 ≤ q ∧ q ≤ 1000000000
theorem Place.good_fit {p : Place} (h : p.good = true) : p.fit := by
  intro q hq
  simp only [Place.good, inB, Bool.and_eq_true, decide_eq_true_eq] at h
  simp only [List.mem_cons, List.not_mem_nil, or_false] at hq
  rcases hq with rfl | rfl | rfl | rfl | rfl <;> omega
def lines {α : Type} (f : α → List (List Int)) (l : List α) : List Int := l.flatMap fun a => lineOf (f a)
theorem lines_succ {α : Type} (f : α → List (List Int)) (l : List α) (z : α) (k : Nat) (hk : k < l.length) : lines f (l.take (k + 1)) = lines f (l.take k) ++ lineOf (f (l.getD k z)) := by
  unfold lines
  rw [List.take_add_one, List.flatMap_append, List.getD_eq_getElem?_getD, List.getElem?_eq_getElem hk]
  simp
theorem lines_len {α : Type} (f : α → List (List Int)) (l : List α) (h : ∀ a, a ∈ l → (lineOf (f a)).length ≤ 300) : (lines f l).length ≤ 300 * l.length := by
  induction l with
  | nil => simp [lines]
  | cons a t ih =>
    have h1 := ih fun f hf => h f (List.mem_cons_of_mem _ hf)
    have h2 := h a List.mem_cons_self
    rw [show lines f (a :: t) = lineOf (f a) ++ lines f t from rfl, List.length_append, List.length_cons]
    omega
def Inst.text (x : Inst) : List Int := (lines Veh.flds x.vs ++ lines Req.flds x.qs) ++ lines Road.flds x.rs
def Inst.print (x : Inst) : List Int := if x.valid then x.text else []
theorem Place.flds_len {p : Place} (h : p.fit) : ∀ f, f ∈ p.flds → f.length ≤ 16 := by
  intro f hf
  simp only [Place.flds, List.mem_cons, List.not_mem_nil, or_false] at hf
  have hh : ∀ n, n ∈ [p.x, p.y, p.o, p.c, p.h] → (dec n).length ≤ 16 := fun n hn => Nat.le_trans (dec_len (by have := h n hn; omega)) (by decide)
  rcases hf with rfl | rfl | rfl | rfl | rfl <;> exact hh _ (by simp)
structure Veh.Fit (v : Veh) : Prop where
  room : -1000000000 ≤ v.room ∧ v.room ≤ 1000000000
  skills : 0 ≤ v.skills ∧ v.skills ≤ 65535
  home : v.home.fit
structure Req.Fit (v : Req) : Prop where
  size : -1000000000 ≤ v.size ∧ v.size ≤ 1000000000
  tags : 0 ≤ v.tags ∧ v.tags ≤ 65535
  from_ : v.from_.fit
  to_ : v.to_.fit
structure Road.Fit (v : Road) : Prop where
  a : -1000000000 ≤ v.a ∧ v.a ≤ 1000000000
  b : -1000000000 ≤ v.b ∧ v.b ≤ 1000000000
  t : -1000000000 ≤ v.t ∧ v.t ≤ 1000000000
theorem Veh.good_fit {v : Veh} (h : v.good = true) : v.Fit := by
  simp only [Veh.good, inB, Bool.and_eq_true, decide_eq_true_eq] at h
  exact ⟨by omega, by omega, Place.good_fit h.2⟩
theorem Req.good_fit {v : Req} (h : v.good = true) : v.Fit := by
  simp only [Req.good, inB, Bool.and_eq_true, decide_eq_true_eq] at h
  exact ⟨by omega, by omega, Place.good_fit h.1.2, Place.good_fit h.2⟩
theorem Road.good_fit {v : Road} {n : Int} (hn : n ≤ 1000000000) (h : v.good n = true) : v.Fit := by
  simp only [Road.good, inB, Bool.and_eq_true, decide_eq_true_eq] at h
  exact ⟨by omega, by omega, by omega⟩
structure Inst.Fit (x : Inst) : Prop where
  nv : x.vs.length ≤ 64
  nq : x.qs.length ≤ 1000
  nr : x.rs.length ≤ 4000
  vs : ∀ v, v ∈ x.vs → v.Fit
  qs : ∀ v, v ∈ x.qs → v.Fit
  rs : ∀ v, v ∈ x.rs → v.Fit
theorem Inst.fit_of {x : Inst} (h : x.valid = true) : x.Fit := by
  simp only [Inst.valid, Inst.few, Bool.and_eq_true, decide_eq_true_eq] at h
  obtain ⟨⟨⟨⟨⟨h1, h2⟩, h3⟩, hv⟩, hq⟩, hr⟩ := h
  refine ⟨h1, h2, h3, ?_, ?_, ?_⟩
  · intro v hm
    obtain ⟨k, hk, rfl⟩ := List.getElem_of_mem hm
    have := allI_iff.1 hv k hk
    rw [List.getD_eq_getElem?_getD, List.getElem?_eq_getElem hk] at this
    exact Veh.good_fit this
  · intro v hm
    obtain ⟨k, hk, rfl⟩ := List.getElem_of_mem hm
    have := allI_iff.1 hq k hk
    rw [List.getD_eq_getElem?_getD, List.getElem?_eq_getElem hk] at this
    exact Req.good_fit this
  · intro v hm
    obtain ⟨k, hk, rfl⟩ := List.getElem_of_mem hm
    have := allI_iff.1 hr k hk
    simp only [roadAt, Bool.and_eq_true] at this
    rw [List.getD_eq_getElem?_getD, List.getElem?_eq_getElem hk] at this
    exact Road.good_fit (by unfold Inst.nodes; omega) this.1
theorem fit_at {α : Type} {P : α → Prop} {l : List α} (h : ∀ v, v ∈ l → P v) (z : α) {k : Nat} (hk : k < l.length) : P (l.getD k z) := by
  rw [List.getD_eq_getElem?_getD, List.getElem?_eq_getElem hk]
  exact h _ (List.getElem_mem hk)
theorem Veh.flds_len {v : Veh} (h : v.Fit) : ∀ f, f ∈ v.flds → f.length ≤ 16 := by
  intro f hf
  simp only [Veh.flds, List.mem_append, List.mem_cons, List.not_mem_nil, or_false] at hf
  rcases hf with (rfl | rfl | rfl) | hf
  · decide
  · exact Nat.le_trans (dec_len (by have := h.room; omega)) (by decide)
  · exact tagT_len _
  · exact Place.flds_len h.home f hf
theorem Req.flds_len {v : Req} (h : v.Fit) : ∀ f, f ∈ v.flds → f.length ≤ 16 := by
  intro f hf
  simp only [Req.flds, List.mem_append, List.mem_cons, List.not_mem_nil, or_false] at hf
  rcases hf with ((rfl | rfl | rfl) | hf) | hf
  · decide
  · exact Nat.le_trans (dec_len (by have := h.size; omega)) (by decide)
  · exact tagT_len _
  · exact Place.flds_len h.from_ f hf
  · exact Place.flds_len h.to_ f hf
theorem Road.flds_len {v : Road} (h : v.Fit) : ∀ f, f ∈ v.flds → f.length ≤ 16 := by
  intro f hf
  simp only [Road.flds, List.mem_cons, List.not_mem_nil, or_false] at hf
  rcases hf with rfl | rfl | rfl | rfl
  · decide
  · exact Nat.le_trans (dec_len (by have := h.a; omega)) (by decide)
  · exact Nat.le_trans (dec_len (by have := h.b; omega)) (by decide)
  · exact Nat.le_trans (dec_len (by have := h.t; omega)) (by decide)
theorem Veh.line_len {v : Veh} (h : v.Fit) : (lineOf v.flds).length ≤ 300 := by
  rw [L1.line_len (by simp [Veh.flds])]
  exact Nat.le_trans (wds_len (Veh.flds_len h)) (by simp [Veh.flds, Place.flds])
theorem Req.line_len {v : Req} (h : v.Fit) : (lineOf v.flds).length ≤ 300 := by
  rw [L1.line_len (by simp [Req.flds])]
  exact Nat.le_trans (wds_len (Req.flds_len h)) (by simp [Req.flds, Place.flds])
theorem Road.line_len {v : Road} (h : v.Fit) : (lineOf v.flds).length ≤ 300 := by
  rw [L1.line_len (by simp [Road.flds])]
  exact Nat.le_trans (wds_len (Road.flds_len h)) (by simp [Road.flds])
theorem lines_take_len {α : Type} (f : α → List (List Int)) (l : List α) (h : ∀ a, a ∈ l → (lineOf (f a)).length ≤ 300) (k : Nat) : (lines f (l.take k)).length ≤ 300 * l.length := by
  have := lines_len f (l.take k) fun a ha => h a (List.mem_of_mem_take ha)
  have : (l.take k).length ≤ l.length := by rw [List.length_take]; omega
  omega
end Go.Proofs.YteefopaoodfapaaDoor.L1
