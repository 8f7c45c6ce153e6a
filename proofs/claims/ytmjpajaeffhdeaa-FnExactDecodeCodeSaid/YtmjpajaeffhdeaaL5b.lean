/- The bytes of code, as the reference tells them. -/
import Derived.Test.YtmjpajaeffhdeaaL5a
namespace Go.Proofs.Ytmjpajaeffhdeaa.L1
open Go.RowKit Go.Proofs.YtmjpajaeffhdeaaW.PrintWords Go.Proofs.Ytmjpajaeffhdeaa.B
set_option linter.unusedVariables false
set_option linter.unusedSimpArgs false
attribute [local go_sem] mk_cell mk_frozen
/-- A block of three rows of instructions. -/
def ReadBlocks (w : World) (B : Nat) (x : Code) : Prop := B < w.heap.size ∧ ∀ j, j < 3 → ∃ A c, w.cell? ⟨B, j, none⟩ = some (.slice A (x.bl j).length c) ∧ kIns.C w A (x.bl j).length (x.bl j)
theorem ReadBlocks.below {w w1 : World} {B : Nat} {x : Code} (h : ReadBlocks w B x) (hb : Below w.heap.size w w1) : ReadBlocks w1 B x := by
  refine ⟨Nat.lt_of_lt_of_le h.1 hb.size, fun j hj => ?_⟩
  obtain ⟨A, c, h1, h2⟩ := h.2 j hj
  exact ⟨A, c, pw_cell_below hb h1, Kd.C_below h2 hb⟩
def Code.upTo (x : Code) (j : Nat) : List Ins := (List.range j).flatMap x.bl
theorem Code.upTo_succ (x : Code) (j : Nat) : x.upTo (j + 1) = x.upTo j ++ x.bl j := by simp [Code.upTo, List.range_succ]
def Code.few (x : Code) : Prop := ∀ j, j < 3 → (x.bl j).length ≤ 1048576
theorem Code.upTo_len {x : Code} (h : x.few) : ∀ j, j ≤ 3 → (x.upTo j).length ≤ j * 1048576
  | 0, _ => by simp [Code.upTo]
  | j + 1, hj => by
    have := Code.upTo_len h j (by omega)
    have := h j (by omega)
    rw [Code.upTo_succ, List.length_append]; omega
def Code.all (x : Code) : List Ins := x.upTo 3
def Code.head (x : Code) : List Int := [x.regs, x.slots, x.b0.length, x.b1.length, x.b2.length]
def Ins.four (i : Ins) : List Int := [i.op, i.a, i.b, i.c]
def Code.numsTo (x : Code) (k : Nat) : List Int := x.head ++ (x.all.take k).flatMap Ins.four
def Code.numbers (x : Code) : List Int := x.head ++ x.all.flatMap Ins.four
def bytesTo (ns : List Int) (k : Nat) : List Int := (ns.take k).flatMap varOf
def Code.bytes (x : Code) : List Int := if x.valid then x.numbers.flatMap varOf else []
theorem insOk_bd {o a b c regs slots k n : Int} (hr : 13 ≤ regs ∧ regs ≤ 1000) (hs : 0 ≤ slots ∧ slots ≤ 100) (hn : n ≤ 20000) (hk : 0 ≤ k) (h : insOk o a b c regs slots k n = true) : ∀ q, q ∈ [o, a, b, c] → -1000000000 ≤ q ∧ q ≤ 1000000000 := by
  have hh : (-1000000000 ≤ o ∧ o ≤ 1000000000) ∧ (-1000000000 ≤ a ∧ a ≤ 1000000000) ∧ (-1000000000 ≤ b ∧ b ≤ 1000000000) ∧ (-1000000000 ≤ c ∧ c ≤ 1000000000) := by
    unfold insOk at h
    (repeat' split at h) <;> simp_all [inB] <;> omega
  intro q hq
  simp only [List.mem_cons, List.not_mem_nil, or_false] at hq
  rcases hq with rfl | rfl | rfl | rfl
  · exact hh.1
  · exact hh.2.1
  · exact hh.2.2.1
  · exact hh.2.2.2
theorem Code.good_of {x : Code} (h : x.valid = true) (j : Nat) (hj : j < 3) : x.good j = true := by
  cases hh : x.good j with
  | true => rfl
  | false => rw [Code.valid_bad j hj hh] at h; cases h
theorem Code.good_len {x : Code} (h : x.valid = true) (j : Nat) (hj : j < 3) : (x.bl j).length ≤ 16384 := by
  have := Code.good_of h j hj
  unfold Code.good blockOk at this
  simp only [Bool.and_eq_true, decide_eq_true_eq] at this
  exact this.1
theorem Code.few_of {x : Code} (h : x.valid = true) : x.few := fun j hj => Nat.le_trans (Code.good_len h j hj) (by decide)
theorem Code.all_len {x : Code} (h : x.valid = true) : x.all.length ≤ 49152 := by
  have a := Code.good_len h 0 (by omega); have b := Code.good_len h 1 (by omega); have c := Code.good_len h 2 (by omega)
  show (x.upTo 3).length ≤ _
  rw [Code.upTo_succ, Code.upTo_succ, Code.upTo_succ]
  simp only [List.length_append]
  have : (x.upTo 0).length = 0 := rfl
  omega
theorem Code.bl_bd {x : Code} (h : x.valid = true) (j : Nat) (hj : j < 3) : ∀ i, i ∈ x.bl j → ∀ q, q ∈ i.four → -1000000000 ≤ q ∧ q ≤ 1000000000 := by
  intro i hi q hq
  have hg := Code.good_of h j hj
  unfold Code.good blockOk at hg
  simp only [Bool.and_eq_true, decide_eq_true_eq] at hg
  obtain ⟨k, hk, rfl⟩ := List.getElem_of_mem hi
  have := allI_iff.1 hg.2 k hk
  rw [List.getD_eq_getElem?_getD, List.getElem?_eq_getElem hk] at this
  exact insOk_bd ((inB_iff _ _ _).1 (by unfold Code.valid at h; simp only [Bool.and_eq_true] at h; exact h.1.1.1.1)) ((inB_iff _ _ _).1 (by unfold Code.valid at h; simp only [Bool.and_eq_true] at h; exact h.1.1.1.2)) (by omega) (by omega) this q hq
theorem Code.upTo_bd {x : Code} (h : x.valid = true) : ∀ j, j ≤ 3 → ∀ i, i ∈ x.upTo j → ∀ q, q ∈ i.four → -1000000000 ≤ q ∧ q ≤ 1000000000
  | 0, _ => fun i hi => by simp [Code.upTo] at hi
  | j + 1, hj => fun i hi => by
    rw [Code.upTo_succ, List.mem_append] at hi
    rcases hi with hi | hi
    · exact Code.upTo_bd h j (by omega) i hi
    · exact Code.bl_bd h j (by omega) i hi
theorem Code.numbers_bd {x : Code} (h : x.valid = true) : ∀ q, q ∈ x.numbers → -1000000000 ≤ q ∧ q ≤ 1000000000 := by
  intro q hq
  unfold Code.numbers at hq
  rw [List.mem_append] at hq
  rcases hq with hq | hq
  · have a := Code.good_len h 0 (by omega); have b := Code.good_len h 1 (by omega); have c := Code.good_len h 2 (by omega)
    have a' : x.b0.length ≤ 16384 := a; have b' : x.b1.length ≤ 16384 := b; have c' : x.b2.length ≤ 16384 := c
    have h1 : inB x.regs 13 1000 = true := by unfold Code.valid at h; simp only [Bool.and_eq_true] at h; exact h.1.1.1.1
    have h2 : inB x.slots 0 100 = true := by unfold Code.valid at h; simp only [Bool.and_eq_true] at h; exact h.1.1.1.2
    rw [inB_iff] at h1 h2
    unfold Code.head at hq
    simp only [List.mem_cons, List.not_mem_nil, or_false] at hq
    rcases hq with rfl | rfl | rfl | rfl | rfl <;> omega
  · obtain ⟨i, hi, hq⟩ := List.mem_flatMap.1 hq
    exact Code.upTo_bd h 3 (by omega) i hi q hq
theorem four_len (l : List Ins) : (l.flatMap Ins.four).length = 4 * l.length := by
  induction l with
  | nil => rfl
  | cons a t ih => rw [List.flatMap_cons, List.length_append, ih, List.length_cons]; show 4 + _ = _; omega
theorem Code.numsTo_len (x : Code) (k : Nat) : (x.numsTo k).length ≤ 5 + 4 * x.all.length := by
  unfold Code.numsTo
  rw [List.length_append, four_len, List.length_take]
  show 5 + _ ≤ _
  omega
theorem Code.numsTo_succ (x : Code) (k : Nat) (hk : k < x.all.length) : x.numsTo (k + 1) = x.numsTo k ++ (x.all.getD k zIns).four := by
  unfold Code.numsTo
  rw [List.append_assoc, List.take_add_one, List.flatMap_append, List.getD_eq_getElem?_getD, List.getElem?_eq_getElem hk]
  simp
theorem Code.numsTo_all (x : Code) : x.numsTo x.all.length = x.numbers := by unfold Code.numsTo Code.numbers; rw [List.take_length]
theorem vars_len {ns : List Int} (h : ∀ q, q ∈ ns → -1000000000 ≤ q ∧ q ≤ 1000000000) : (ns.flatMap varOf).length ≤ 5 * ns.length := by
  induction ns with
  | nil => simp
  | cons a t ih =>
    have := varOf_len (h a List.mem_cons_self)
    have := ih fun q hq => h q (List.mem_cons_of_mem _ hq)
    rw [List.flatMap_cons, List.length_append, List.length_cons]; omega
theorem bytesTo_len {ns : List Int} (h : ∀ q, q ∈ ns → -1000000000 ≤ q ∧ q ≤ 1000000000) (k : Nat) : (bytesTo ns k).length ≤ 5 * ns.length := by
  unfold bytesTo
  have := vars_len (ns := ns.take k) fun q hq => h q (List.mem_of_mem_take hq)
  have := List.length_take_le k ns
  have : (ns.take k).length ≤ ns.length := by rw [List.length_take]; omega
  omega
theorem bytesTo_succ (ns : List Int) (k : Nat) (hk : k < ns.length) : bytesTo ns (k + 1) = bytesTo ns k ++ varOf (ns.getD k 0) := by
  unfold bytesTo
  rw [List.take_add_one, List.flatMap_append, List.getD_eq_getElem?_getD, List.getElem?_eq_getElem hk]
  simp
section
variable (w : World)
set_option maxRecDepth 100000 in
set_option maxHeartbeats 2000000 in
theorem spec_seq (B : Nat) (x : Code) (hr : ReadBlocks w B x) (hs : x.few) : Calls Try.prog 62 #[.slice (some ⟨B, 0, none⟩) 3 3] w fun e w' => ∃ v, e = .returned v ∧ kIns.R 81 w' w.heap.size (fun _ => True) v x.all ∧ Below w.heap.size w w' := by
  have HX := Aside0.mk hr; have HS := Aside0.mk hs; clear hr hs
  have hlit := flat_lit (d := kIns) rfl w w.heap.size 81 [] (Nat.le_refl _) (by simp)
  have HL := Aside0.mk hlit; clear hlit
  have HB := Aside0.mk (below_alloc (Below.refl w.heap.size w) (.cells #[] 81))
  go_enter Try.func62, Try.ntmps62
  go_wp2_with fail
  go_loopg [3, 4] 4 (fun q v3 v4 wr => ∃ j, q = 4 - j ∧ j ≤ 3 ∧ v4 = .int .i64 j ∧ Aside0 (kIns.R 81 wr w.heap.size (fun _ => True) v3 (x.upTo j)) ∧ Aside0 (Below w.heap.size w wr))
  case atStart => exact ⟨0, by omega, by omega, rfl, HL, HB⟩
  case round =>
    obtain ⟨j, rfl, hj, rfl, HO, HBj⟩ := hrel
    clear HL HB
    by_cases hlt : j < 3
    · obtain ⟨A, c, z0, hC⟩ := (HX.out.below HBj.out).2 j hlt
      have HC := Aside0.mk hC; clear hC
      have HU := Aside0.mk (show x.upTo (j + 1) = x.upTo j ++ x.bl j from x.upTo_succ j)
      have HN := Aside0.mk (And.intro (Code.upTo_len HS.out j hj) (HS.out j hlt))
      generalize x.bl j = ys at z0 HC HU HN
      generalize x.upTo j = us at HO HU HN
      obtain ⟨A', c', rfl⟩ := Kd.R_slice HO.out
      go_wp2_with (refine Kd.flat_append_row kIns rfl (w0 := w) w.heap.size rfl _ _ 30 81 zIns 32 rfl Try.underlying30 (by kernel_rfl) (by decide) (by decide) _ us ys _ _ _ rfl rfl HO.out HC.out HBj.out HBj.out.size (by have := HN.out; omega) ?_; intro v2 w2 hr2 hb2 _ _; have HR2 := Aside0.mk hr2; have HB2 := Aside0.mk hb2; clear hr2 hb2)
      go_roundg (4 - (j + 1))
      case measure => omega
      case rel => exact ⟨j + 1, rfl, hlt, by go_num, ⟨by rw [HU.out]; exact HR2.out⟩, HB2⟩
    · have hj3 : j = 3 := by omega
      subst hj3
      go_wp2
      go_ret
      exact ⟨_, rfl, HO.out, HBj.out⟩
end
end Go.Proofs.Ytmjpajaeffhdeaa.L1
