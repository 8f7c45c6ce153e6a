/- A block of code run, as the reference tells it: an instruction each. -/
import Derived.Test.YtlhpbpkefkabgaaGreatQS15
namespace Go.Proofs.YtlhpbpkefkabgaaGreat.L1
open Go.RowKit Go.Proofs.YtlhpbpkefkabgaaGreatW.PrintWords Go.Proofs.YtlhpbpkefkabgaaGreat.B
set_option linter.unusedVariables false
set_option linter.unusedSimpArgs false
attribute [local go_sem] mk_cell mk_frozen
/-- A row that lies in none of the blocks of F. -/
def NotIn (A : Option Addr) (n : Nat) (F : Nat → Prop) : Prop := ∀ ad, A = some ad → 0 < n → ¬F ad.block
/-- The blocks of F, and d blocks from n on. -/
def Mine (F : Nat → Prop) (n d : Nat) : Nat → Prop := fun b => F b ∨ (n ≤ b ∧ b < n + d)
def Made (xs : List Int) (F : Nat → Prop) (v : Value) (W : World) : Prop := ∃ A c, v = .slice A xs.length c ∧ kInt.C W A xs.length xs ∧ NotIn A xs.length F ∧ xs.length ≤ c
theorem Made.below {xs : List Int} {F : Nat → Prop} {v : Value} {W W' : World} (h : Made xs F v W) (hb : Below W.heap.size W W') : Made xs F v W' := by
  obtain ⟨A, c, rfl, h1, h2⟩ := h
  exact ⟨A, c, rfl, Kd.C_below h1 hb, h2⟩
theorem cell_move {w w1 : World} {a : Addr} (h : w1.heap[a.block]? = w.heap[a.block]?) : w1.cell? a = w.cell? a := by unfold World.cell?; rw [h]
theorem add_block (ad : Addr) (n : Nat) : (ad.add n).block = ad.block := by unfold Addr.add; split <;> rfl
theorem int_move {w w1 : World} {A : Option Addr} {n : Nat} {xs : List Int} (h : kInt.C w A n xs) (hm : ∀ ad, A = some ad → 0 < n → w1.heap[ad.block]? = w.heap[ad.block]?) : kInt.C w1 A n xs := by
  refine ⟨h.1, h.2.1, fun hp => ?_⟩
  obtain ⟨ad, e, hc⟩ := h.2.2 hp
  refine ⟨ad, e, fun i x hx => ?_⟩
  obtain ⟨c, hl, hk, hr⟩ := hc i x hx
  exact ⟨c, hl, hk, fun j u hu => (cell_move (by rw [add_block]; exact hm ad e hp)).trans (hr j u hu)⟩
theorem int_lt {w : World} {A : Option Addr} {n : Nat} {xs : List Int} (h : kInt.C w A n xs) {ad : Addr} (he : A = some ad) (hp : 0 < n) : ad.block < w.heap.size := by
  obtain ⟨ad', e, hc⟩ := h.2.2 hp
  rw [he] at e; injection e with e; subst e
  have hl := h.1
  obtain ⟨c, hl', hk, hr⟩ := hc 0 (xs[0]'(by omega)) (by simp)
  have hk' : c = [Value.int .i64 (xs[0]'(by omega))] := hk
  have h2 := hr 0 _ (by rw [hk']; rfl)
  rcases Nat.lt_or_ge ad.block w.heap.size with h3 | h3
  · exact h3
  · unfold World.cell? at h2
    rw [add_block, Array.getElem?_eq_none h3] at h2
    cases h2
theorem NotIn.new {w : World} {A : Option Addr} {n : Nat} {xs : List Int} (h : kInt.C w A n xs) {F : Nat → Prop} (hF : NotIn A n F) (d : Nat) : NotIn A n (Mine F w.heap.size d) := fun ad e hp hb => by
  rcases hb with hb | hb
  · exact hF ad e hp hb
  · have := int_lt h e hp; omega
theorem NotIn.of_R {e : Nat} {w : World} {base : Nat} {ok : Nat → Prop} {A : Option Addr} {n c : Nat} {xs : List Int} (h : kInt.R e w base ok (.slice A n c) xs) {F : Nat → Prop} (hF : ∀ b, F b → b < base) : NotIn A n F := fun ad he hp hb => by
  have hn := (Kd.R_reads' h).1
  obtain ⟨g, cap, hv, hg, _⟩ := Kd.R_form h (by omega)
  injection hv with h1
  rw [he] at h1; injection h1 with h1
  have := hF _ hb
  rw [h1] at this
  have : g < base := this
  omega
theorem far_set {w1 W : World} {b g o : Nat} {v : Value} (hne : b ≠ g) (h : W.heap[b]? = w1.heap[b]?) : (W.setCell ⟨g, o, none⟩ v).heap[b]? = w1.heap[b]? := (Below.heap_setCell _ _ _ _ hne).trans h
theorem set_made (W : World) (A : Option Addr) (c : Nat) (xs : List Int) (hr : kInt.C W A xs.length xs) (hn : xs.length ≤ 2000000) (k x : Int) (h0 : 0 ≤ k) (h1 : k < xs.length) (xs' : List Int) (hxs : putI xs k x = xs') (F : Nat → Prop) (hF : ∀ b, F b → b < W.heap.size) :
    Calls Tryz.prog 59 #[.slice A xs.length c, .int .i64 k, .int .i64 x] W fun e w' => ∃ v, e = .returned v ∧ Made xs' F v w' ∧ Below W.heap.size W w' := by
  refine (spec_set W A c xs hr hn k x h0 h1).mono ?_
  rintro e w' ⟨v, rfl, hr, hb⟩
  rw [hxs] at hr
  obtain ⟨A', c', rfl, hcp, hc⟩ := Kd.R_reads hr
  exact ⟨_, rfl, ⟨A', c', rfl, hc, NotIn.of_R hr hF, hcp⟩, hb⟩
theorem put_reg {o a b c regs slots k n : Int} (hx : insOk o a b c regs slots k n = true) (h15 : o ≠ 15) (h16 : o ≠ 16) (h17 : o ≠ 17) (h18 : o ≠ 18) (h19 : o ≠ 19) : 13 ≤ a ∧ a ≤ regs - 1 := by
  unfold insOk at hx
  repeat' split at hx
  all_goals first
    | (cases hx; done)
    | (simp only [Bool.and_eq_true, inB_iff] at hx; omega)
    | (exfalso; omega)
section
variable (w : World)
/-- The rest of the run, from instruction k on. -/
def Runs (B : Option Addr) (bc : Nat) (b : List Ins) (E : Env) (mF : Mem) (k : Nat) (m : Mem) : Prop :=
  ∀ (W : World) (A0 : Option Addr) (c0 : Nat) (A1 : Option Addr) (c1 : Nat) (F : Nat → Prop), kIns.C W B b.length b → kInt.C W A0 m.regs.length m.regs → kInt.C W A1 m.slots.length m.slots → NotIn A0 m.regs.length F → NotIn A1 m.slots.length F → (∀ b, F b → b < W.heap.size) → m.regs.length ≤ c0 →
    Calls Tryz.prog 29 #[.slice B b.length bc, .int .i64 k, memV E m A0 c0 A1 c1] W fun e w' => (∃ A0' c0' A1' c1', e = .returned (memV E mF A0' c0' A1' c1') ∧ kInt.C w' A0' mF.regs.length mF.regs ∧ kInt.C w' A1' mF.slots.length mF.slots ∧ NotIn A0' mF.regs.length F ∧ NotIn A1' mF.slots.length F ∧ mF.regs.length ≤ c0') ∧ Below W.heap.size W w'
set_option maxRecDepth 100000 in
set_option maxHeartbeats 4000000 in
theorem spec_exec_jump (B : Option Addr) (bc : Nat) (b : List Ins) (E : Env) (mF : Mem) (k : Nat) (m : Mem) (hk : k < b.length) (hmb : b.length ≤ 16384) (x : Ins) (hx : b.getD k zIns = x) (h : x.op = 17) (kb : Nat) (hb : x.b = kb) (ih : Runs B bc b E mF kb m) : Runs B bc b E mF k m := by
  intro w A0 c0 A1 c1 F hB hA0 hA1 hF0 hF1 hF hcap
  have hA := sA (And.intro hA0 hA1); have HB := sA hB; have HI := sA ih; have HF := sA hF; have HCP := sA hcap; clear hcap
  have HF0 := sA (NotIn.new hA0 hF0 3); have HF1 := sA (NotIn.new hA1 hF1 3)
  obtain ⟨ad, e0, t0, t1⟩ := Kd.flat_cells (d := kIns) rfl hB zIns k hk
  cases e0
  rw [hx] at t0 t1
  have x0 := t0 _ rfl; have x1 := t1 0 _ rfl; have x2 := t1 1 _ rfl; have x3 := t1 2 _ rfl
  obtain ⟨xo, xa, xb, xc⟩ := x
  dsimp only at *
  subst h hb
  have HW := sA (bA (bA (Below.refl w.heap.size w) (.cells #[.slice A0 m.regs.length c0, .slice A1 m.slots.length c1, .int .i64 E.tags, .int .i64 E.skills, .int .i64 E.q, .int .i64 E.reqs, .int .i64 m.rule] 73)) (.cells #[.slice none 0 0, .slice none 0 0, .int .i64 0, .int .i64 0, .int .i64 0, .int .i64 0, .int .i64 0] 73))
  have HW3 := sA (bA HW.out (.cells #[.int .i64 17, .int .i64 xa, .int .i64 (kb : Int), .int .i64 xc] 99))
  have HR := sA (show (((w.alloc (.cells #[.slice A0 m.regs.length c0, .slice A1 m.slots.length c1, .int .i64 E.tags, .int .i64 E.skills, .int .i64 E.q, .int .i64 E.reqs, .int .i64 m.rule] 73)).alloc (.cells #[.slice none 0 0, .slice none 0 0, .int .i64 0, .int .i64 0, .int .i64 0, .int .i64 0, .int .i64 0] 73)).alloc (.cells #[.int .i64 17, .int .i64 xa, .int .i64 (kb : Int), .int .i64 xc] 99)).heap[w.heap.size + 1]? = some (.cells #[.slice none 0 0, .slice none 0 0, .int .i64 0, .int .i64 0, .int .i64 0, .int .i64 0, .int .i64 0] 73 (0, 0)) from blk_box (by have := al_new (w.alloc (.cells #[.slice A0 m.regs.length c0, .slice A1 m.slots.length c1, .int .i64 E.tags, .int .i64 E.skills, .int .i64 E.q, .int .i64 E.reqs, .int .i64 m.rule] 73)) (.cells #[.slice none 0 0, .slice none 0 0, .int .i64 0, .int .i64 0, .int .i64 0, .int .i64 0, .int .i64 0] 73); rwa [al_size] at this) (.cells #[.int .i64 17, .int .i64 xa, .int .i64 (kb : Int), .int .i64 xc] 99))
  have HM := sA (show (((w.alloc (.cells #[.slice A0 m.regs.length c0, .slice A1 m.slots.length c1, .int .i64 E.tags, .int .i64 E.skills, .int .i64 E.q, .int .i64 E.reqs, .int .i64 m.rule] 73)).alloc (.cells #[.slice none 0 0, .slice none 0 0, .int .i64 0, .int .i64 0, .int .i64 0, .int .i64 0, .int .i64 0] 73)).alloc (.cells #[.int .i64 17, .int .i64 xa, .int .i64 (kb : Int), .int .i64 xc] 99)).heap[w.heap.size]? = some (.cells #[.slice A0 m.regs.length c0, .slice A1 m.slots.length c1, .int .i64 E.tags, .int .i64 E.skills, .int .i64 E.q, .int .i64 E.reqs, .int .i64 m.rule] 73 (0, 0)) from blk_box (blk_box (al_new w (.cells #[.slice A0 m.regs.length c0, .slice A1 m.slots.length c1, .int .i64 E.tags, .int .i64 E.skills, .int .i64 E.q, .int .i64 E.reqs, .int .i64 m.rule] 73)) (.cells #[.slice none 0 0, .slice none 0 0, .int .i64 0, .int .i64 0, .int .i64 0, .int .i64 0, .int .i64 0] 73)) (.cells #[.int .i64 17, .int .i64 xa, .int .i64 (kb : Int), .int .i64 xc] 99))
  have HX := sA (show (((w.alloc (.cells #[.slice A0 m.regs.length c0, .slice A1 m.slots.length c1, .int .i64 E.tags, .int .i64 E.skills, .int .i64 E.q, .int .i64 E.reqs, .int .i64 m.rule] 73)).alloc (.cells #[.slice none 0 0, .slice none 0 0, .int .i64 0, .int .i64 0, .int .i64 0, .int .i64 0, .int .i64 0] 73)).alloc (.cells #[.int .i64 17, .int .i64 xa, .int .i64 (kb : Int), .int .i64 xc] 99)).heap[w.heap.size + 1 + 1]? = some (.cells #[.int .i64 17, .int .i64 xa, .int .i64 (kb : Int), .int .i64 xc] 99 (0, 0)) from by have := al_new ((w.alloc (.cells #[.slice A0 m.regs.length c0, .slice A1 m.slots.length c1, .int .i64 E.tags, .int .i64 E.skills, .int .i64 E.q, .int .i64 E.reqs, .int .i64 m.rule] 73)).alloc (.cells #[.slice none 0 0, .slice none 0 0, .int .i64 0, .int .i64 0, .int .i64 0, .int .i64 0, .int .i64 0] 73)) (.cells #[.int .i64 17, .int .i64 xa, .int .i64 (kb : Int), .int .i64 xc] 99); rwa [al_size, al_size] at this)
  have HS := sA (show (((w.alloc (.cells #[.slice A0 m.regs.length c0, .slice A1 m.slots.length c1, .int .i64 E.tags, .int .i64 E.skills, .int .i64 E.q, .int .i64 E.reqs, .int .i64 m.rule] 73)).alloc (.cells #[.slice none 0 0, .slice none 0 0, .int .i64 0, .int .i64 0, .int .i64 0, .int .i64 0, .int .i64 0] 73)).alloc (.cells #[.int .i64 17, .int .i64 xa, .int .i64 (kb : Int), .int .i64 xc] 99)).heap.size = w.heap.size + 3 by simp only [al_size])
  replace x0 := pC HW.out x0; replace x1 := pC HW.out x1; replace x2 := pC HW.out x2; replace x3 := pC HW.out x3
  clear t0 t1 hB hA0 hA1 hF0 hF1 hF ih hx
  unfold memV
  go_enter Tryz.func29, Tryz.ntmps29
  go_wp2_with fail
  have hcall := HI.out _ A0 c0 A1 c1 _ (Kd.C_below HB.out HW3.out) (Kd.C_below hA.out.1 HW3.out) (Kd.C_below hA.out.2 HW3.out) HF0.out HF1.out (by intro b hb; rw [HS.out]; rcases hb with hb | hb; (have := HF.out b hb; omega); omega) HCP.out
  unfold memV at hcall
  clear HI
  go_at_call 29
  refine (hcall).mono ?_
  rintro e w1 ⟨⟨A2, c2, A3, c3, rfl, q0, q1, q2, q3, q4⟩, hb⟩
  have HB1 := sA (bC HW3.out hb)
  have HQ := sA (And.intro q0 (And.intro q1 (And.intro q2 (And.intro q3 q4))))
  have hR1 := bB HR.out hb
  obtain ⟨r1, r2⟩ := lay0 hR1
  clear q0 q1 q2 q3 q4 hb hR1
  go_wp2_with fail
  refine bodyPost_ret (v := memV E mF A2 c2 A3 c3) (by simp [results, Tryz.results29, go_sem, r1, r2, memV]) rfl ⟨⟨A2, c2, A3, c3, rfl, ?_, ?_, fun ad e hp hb => HQ.out.2.2.1 ad e hp (.inl hb), fun ad e hp hb => HQ.out.2.2.2.1 ad e hp (.inl hb), HQ.out.2.2.2.2⟩, ?_⟩
  · refine int_move HQ.out.1 fun ad he hp => ?_
    have hne := HQ.out.2.2.1 ad he hp
    have hn1 : ad.block ≠ w.heap.size + 1 := fun h => hne (.inr ⟨by omega, by omega⟩)
    with_reducible repeat (first | rfl | refine far_set hn1 ?_)
  · refine int_move HQ.out.2.1 fun ad he hp => ?_
    have hne := HQ.out.2.2.2.1 ad he hp
    have hn1 : ad.block ≠ w.heap.size + 1 := fun h => hne (.inr ⟨by omega, by omega⟩)
    with_reducible repeat (first | rfl | refine far_set hn1 ?_)
  · with_reducible repeat (first | exact HB1.out | refine bel_set ?_ (by omega) _)
set_option maxRecDepth 100000 in
set_option maxHeartbeats 4000000 in
theorem spec_exec_jz0 (B : Option Addr) (bc : Nat) (b : List Ins) (E : Env) (mF : Mem) (k : Nat) (m : Mem) (hk : k < b.length) (hmb : b.length ≤ 16384) (x : Ins) (hx : b.getD k zIns = x) (h : x.op = 15) (ka : Nat) (ha : x.a = ka) (ha0 : ka < m.regs.length) (hz : atI m.regs ka = 0) (kb : Nat) (hb : x.b = kb) (ih : Runs B bc b E mF kb m) : Runs B bc b E mF k m := by
  intro w A0 c0 A1 c1 F hB hA0 hA1 hF0 hF1 hF hcap
  have hka : (ka : Int) < (m.regs.length : Int) := by omega
  obtain ⟨ra, rfl, z0⟩ := int_at hA0 ha0
  generalize hy0 : atI m.regs ka = y0 at *
  have HY0 := sA hy0; clear hy0
  have hA := sA (And.intro hA0 hA1); have HB := sA hB; have HI := sA ih; have HF := sA hF; have HCP := sA hcap; clear hcap
  have HF0 := sA (NotIn.new hA0 hF0 3); have HF1 := sA (NotIn.new hA1 hF1 3)
  obtain ⟨ad, e0, t0, t1⟩ := Kd.flat_cells (d := kIns) rfl hB zIns k hk
  cases e0
  rw [hx] at t0 t1
  have x0 := t0 _ rfl; have x1 := t1 0 _ rfl; have x2 := t1 1 _ rfl; have x3 := t1 2 _ rfl
  obtain ⟨xo, xa, xb, xc⟩ := x
  dsimp only at *
  subst h hb ha
  have HW := sA (bA (bA (Below.refl w.heap.size w) (.cells #[.slice (some ra) m.regs.length c0, .slice A1 m.slots.length c1, .int .i64 E.tags, .int .i64 E.skills, .int .i64 E.q, .int .i64 E.reqs, .int .i64 m.rule] 73)) (.cells #[.slice none 0 0, .slice none 0 0, .int .i64 0, .int .i64 0, .int .i64 0, .int .i64 0, .int .i64 0] 73))
  have HW3 := sA (bA HW.out (.cells #[.int .i64 15, .int .i64 (ka : Int), .int .i64 (kb : Int), .int .i64 xc] 99))
  have HR := sA (show (((w.alloc (.cells #[.slice (some ra) m.regs.length c0, .slice A1 m.slots.length c1, .int .i64 E.tags, .int .i64 E.skills, .int .i64 E.q, .int .i64 E.reqs, .int .i64 m.rule] 73)).alloc (.cells #[.slice none 0 0, .slice none 0 0, .int .i64 0, .int .i64 0, .int .i64 0, .int .i64 0, .int .i64 0] 73)).alloc (.cells #[.int .i64 15, .int .i64 (ka : Int), .int .i64 (kb : Int), .int .i64 xc] 99)).heap[w.heap.size + 1]? = some (.cells #[.slice none 0 0, .slice none 0 0, .int .i64 0, .int .i64 0, .int .i64 0, .int .i64 0, .int .i64 0] 73 (0, 0)) from blk_box (by have := al_new (w.alloc (.cells #[.slice (some ra) m.regs.length c0, .slice A1 m.slots.length c1, .int .i64 E.tags, .int .i64 E.skills, .int .i64 E.q, .int .i64 E.reqs, .int .i64 m.rule] 73)) (.cells #[.slice none 0 0, .slice none 0 0, .int .i64 0, .int .i64 0, .int .i64 0, .int .i64 0, .int .i64 0] 73); rwa [al_size] at this) (.cells #[.int .i64 15, .int .i64 (ka : Int), .int .i64 (kb : Int), .int .i64 xc] 99))
  have HM := sA (show (((w.alloc (.cells #[.slice (some ra) m.regs.length c0, .slice A1 m.slots.length c1, .int .i64 E.tags, .int .i64 E.skills, .int .i64 E.q, .int .i64 E.reqs, .int .i64 m.rule] 73)).alloc (.cells #[.slice none 0 0, .slice none 0 0, .int .i64 0, .int .i64 0, .int .i64 0, .int .i64 0, .int .i64 0] 73)).alloc (.cells #[.int .i64 15, .int .i64 (ka : Int), .int .i64 (kb : Int), .int .i64 xc] 99)).heap[w.heap.size]? = some (.cells #[.slice (some ra) m.regs.length c0, .slice A1 m.slots.length c1, .int .i64 E.tags, .int .i64 E.skills, .int .i64 E.q, .int .i64 E.reqs, .int .i64 m.rule] 73 (0, 0)) from blk_box (blk_box (al_new w (.cells #[.slice (some ra) m.regs.length c0, .slice A1 m.slots.length c1, .int .i64 E.tags, .int .i64 E.skills, .int .i64 E.q, .int .i64 E.reqs, .int .i64 m.rule] 73)) (.cells #[.slice none 0 0, .slice none 0 0, .int .i64 0, .int .i64 0, .int .i64 0, .int .i64 0, .int .i64 0] 73)) (.cells #[.int .i64 15, .int .i64 (ka : Int), .int .i64 (kb : Int), .int .i64 xc] 99))
  have HX := sA (show (((w.alloc (.cells #[.slice (some ra) m.regs.length c0, .slice A1 m.slots.length c1, .int .i64 E.tags, .int .i64 E.skills, .int .i64 E.q, .int .i64 E.reqs, .int .i64 m.rule] 73)).alloc (.cells #[.slice none 0 0, .slice none 0 0, .int .i64 0, .int .i64 0, .int .i64 0, .int .i64 0, .int .i64 0] 73)).alloc (.cells #[.int .i64 15, .int .i64 (ka : Int), .int .i64 (kb : Int), .int .i64 xc] 99)).heap[w.heap.size + 1 + 1]? = some (.cells #[.int .i64 15, .int .i64 (ka : Int), .int .i64 (kb : Int), .int .i64 xc] 99 (0, 0)) from by have := al_new ((w.alloc (.cells #[.slice (some ra) m.regs.length c0, .slice A1 m.slots.length c1, .int .i64 E.tags, .int .i64 E.skills, .int .i64 E.q, .int .i64 E.reqs, .int .i64 m.rule] 73)).alloc (.cells #[.slice none 0 0, .slice none 0 0, .int .i64 0, .int .i64 0, .int .i64 0, .int .i64 0, .int .i64 0] 73)) (.cells #[.int .i64 15, .int .i64 (ka : Int), .int .i64 (kb : Int), .int .i64 xc] 99); rwa [al_size, al_size] at this)
  have HS := sA (show (((w.alloc (.cells #[.slice (some ra) m.regs.length c0, .slice A1 m.slots.length c1, .int .i64 E.tags, .int .i64 E.skills, .int .i64 E.q, .int .i64 E.reqs, .int .i64 m.rule] 73)).alloc (.cells #[.slice none 0 0, .slice none 0 0, .int .i64 0, .int .i64 0, .int .i64 0, .int .i64 0, .int .i64 0] 73)).alloc (.cells #[.int .i64 15, .int .i64 (ka : Int), .int .i64 (kb : Int), .int .i64 xc] 99)).heap.size = w.heap.size + 3 by simp only [al_size])
  replace x0 := pC HW.out x0; replace x1 := pC HW.out x1; replace x2 := pC HW.out x2; replace x3 := pC HW.out x3
  replace z0 := pC HW3.out z0
  clear t0 t1 hB hA0 hA1 hF0 hF1 hF ih hx
  unfold memV
  have p0 : (y0 == 0) = true := beq_iff_eq.2 hz; have p1 : decide (y0 = 0) = true := decide_eq_true hz
  clear hz
  go_enter Tryz.func29, Tryz.ntmps29
  go_wp2_with fail
  have hcall := HI.out _ (some ra) c0 A1 c1 _ (Kd.C_below HB.out HW3.out) (Kd.C_below hA.out.1 HW3.out) (Kd.C_below hA.out.2 HW3.out) HF0.out HF1.out (by intro b hb; rw [HS.out]; rcases hb with hb | hb; (have := HF.out b hb; omega); omega) HCP.out
  unfold memV at hcall
  clear HI
  go_at_call 29
  refine (hcall).mono ?_
  rintro e w1 ⟨⟨A2, c2, A3, c3, rfl, q0, q1, q2, q3, q4⟩, hb⟩
  have HB1 := sA (bC HW3.out hb)
  have HQ := sA (And.intro q0 (And.intro q1 (And.intro q2 (And.intro q3 q4))))
  have hR1 := bB HR.out hb
  obtain ⟨r1, r2⟩ := lay0 hR1
  clear q0 q1 q2 q3 q4 hb hR1
  go_wp2_with fail
  refine bodyPost_ret (v := memV E mF A2 c2 A3 c3) (by simp [results, Tryz.results29, go_sem, r1, r2, memV]) rfl ⟨⟨A2, c2, A3, c3, rfl, ?_, ?_, fun ad e hp hb => HQ.out.2.2.1 ad e hp (.inl hb), fun ad e hp hb => HQ.out.2.2.2.1 ad e hp (.inl hb), HQ.out.2.2.2.2⟩, ?_⟩
  · refine int_move HQ.out.1 fun ad he hp => ?_
    have hne := HQ.out.2.2.1 ad he hp
    have hn1 : ad.block ≠ w.heap.size + 1 := fun h => hne (.inr ⟨by omega, by omega⟩)
    with_reducible repeat (first | rfl | refine far_set hn1 ?_)
  · refine int_move HQ.out.2.1 fun ad he hp => ?_
    have hne := HQ.out.2.2.2.1 ad he hp
    have hn1 : ad.block ≠ w.heap.size + 1 := fun h => hne (.inr ⟨by omega, by omega⟩)
    with_reducible repeat (first | rfl | refine far_set hn1 ?_)
  · with_reducible repeat (first | exact HB1.out | refine bel_set ?_ (by omega) _)
set_option maxRecDepth 100000 in
set_option maxHeartbeats 4000000 in
theorem spec_exec_jz1 (B : Option Addr) (bc : Nat) (b : List Ins) (E : Env) (mF : Mem) (k : Nat) (m : Mem) (hk : k < b.length) (hmb : b.length ≤ 16384) (x : Ins) (hx : b.getD k zIns = x) (h : x.op = 15) (ka : Nat) (ha : x.a = ka) (ha0 : ka < m.regs.length) (hz : atI m.regs ka ≠ 0) (ih : Runs B bc b E mF (k + 1) m) : Runs B bc b E mF k m := by
  intro w A0 c0 A1 c1 F hB hA0 hA1 hF0 hF1 hF hcap
  have hka : (ka : Int) < (m.regs.length : Int) := by omega
  obtain ⟨ra, rfl, z0⟩ := int_at hA0 ha0
  generalize hy0 : atI m.regs ka = y0 at *
  have HY0 := sA hy0; clear hy0
  have hA := sA (And.intro hA0 hA1); have HB := sA hB; have HI := sA ih; have HF := sA hF; have HCP := sA hcap; clear hcap
  have HF0 := sA (NotIn.new hA0 hF0 3); have HF1 := sA (NotIn.new hA1 hF1 3)
  obtain ⟨ad, e0, t0, t1⟩ := Kd.flat_cells (d := kIns) rfl hB zIns k hk
  cases e0
  rw [hx] at t0 t1
  have x0 := t0 _ rfl; have x1 := t1 0 _ rfl; have x2 := t1 1 _ rfl; have x3 := t1 2 _ rfl
  obtain ⟨xo, xa, xb, xc⟩ := x
  dsimp only at *
  subst h ha
  have HW := sA (bA (bA (Below.refl w.heap.size w) (.cells #[.slice (some ra) m.regs.length c0, .slice A1 m.slots.length c1, .int .i64 E.tags, .int .i64 E.skills, .int .i64 E.q, .int .i64 E.reqs, .int .i64 m.rule] 73)) (.cells #[.slice none 0 0, .slice none 0 0, .int .i64 0, .int .i64 0, .int .i64 0, .int .i64 0, .int .i64 0] 73))
  have HW3 := sA (bA HW.out (.cells #[.int .i64 15, .int .i64 (ka : Int), .int .i64 xb, .int .i64 xc] 99))
  have HR := sA (show (((w.alloc (.cells #[.slice (some ra) m.regs.length c0, .slice A1 m.slots.length c1, .int .i64 E.tags, .int .i64 E.skills, .int .i64 E.q, .int .i64 E.reqs, .int .i64 m.rule] 73)).alloc (.cells #[.slice none 0 0, .slice none 0 0, .int .i64 0, .int .i64 0, .int .i64 0, .int .i64 0, .int .i64 0] 73)).alloc (.cells #[.int .i64 15, .int .i64 (ka : Int), .int .i64 xb, .int .i64 xc] 99)).heap[w.heap.size + 1]? = some (.cells #[.slice none 0 0, .slice none 0 0, .int .i64 0, .int .i64 0, .int .i64 0, .int .i64 0, .int .i64 0] 73 (0, 0)) from blk_box (by have := al_new (w.alloc (.cells #[.slice (some ra) m.regs.length c0, .slice A1 m.slots.length c1, .int .i64 E.tags, .int .i64 E.skills, .int .i64 E.q, .int .i64 E.reqs, .int .i64 m.rule] 73)) (.cells #[.slice none 0 0, .slice none 0 0, .int .i64 0, .int .i64 0, .int .i64 0, .int .i64 0, .int .i64 0] 73); rwa [al_size] at this) (.cells #[.int .i64 15, .int .i64 (ka : Int), .int .i64 xb, .int .i64 xc] 99))
  have HM := sA (show (((w.alloc (.cells #[.slice (some ra) m.regs.length c0, .slice A1 m.slots.length c1, .int .i64 E.tags, .int .i64 E.skills, .int .i64 E.q, .int .i64 E.reqs, .int .i64 m.rule] 73)).alloc (.cells #[.slice none 0 0, .slice none 0 0, .int .i64 0, .int .i64 0, .int .i64 0, .int .i64 0, .int .i64 0] 73)).alloc (.cells #[.int .i64 15, .int .i64 (ka : Int), .int .i64 xb, .int .i64 xc] 99)).heap[w.heap.size]? = some (.cells #[.slice (some ra) m.regs.length c0, .slice A1 m.slots.length c1, .int .i64 E.tags, .int .i64 E.skills, .int .i64 E.q, .int .i64 E.reqs, .int .i64 m.rule] 73 (0, 0)) from blk_box (blk_box (al_new w (.cells #[.slice (some ra) m.regs.length c0, .slice A1 m.slots.length c1, .int .i64 E.tags, .int .i64 E.skills, .int .i64 E.q, .int .i64 E.reqs, .int .i64 m.rule] 73)) (.cells #[.slice none 0 0, .slice none 0 0, .int .i64 0, .int .i64 0, .int .i64 0, .int .i64 0, .int .i64 0] 73)) (.cells #[.int .i64 15, .int .i64 (ka : Int), .int .i64 xb, .int .i64 xc] 99))
  have HX := sA (show (((w.alloc (.cells #[.slice (some ra) m.regs.length c0, .slice A1 m.slots.length c1, .int .i64 E.tags, .int .i64 E.skills, .int .i64 E.q, .int .i64 E.reqs, .int .i64 m.rule] 73)).alloc (.cells #[.slice none 0 0, .slice none 0 0, .int .i64 0, .int .i64 0, .int .i64 0, .int .i64 0, .int .i64 0] 73)).alloc (.cells #[.int .i64 15, .int .i64 (ka : Int), .int .i64 xb, .int .i64 xc] 99)).heap[w.heap.size + 1 + 1]? = some (.cells #[.int .i64 15, .int .i64 (ka : Int), .int .i64 xb, .int .i64 xc] 99 (0, 0)) from by have := al_new ((w.alloc (.cells #[.slice (some ra) m.regs.length c0, .slice A1 m.slots.length c1, .int .i64 E.tags, .int .i64 E.skills, .int .i64 E.q, .int .i64 E.reqs, .int .i64 m.rule] 73)).alloc (.cells #[.slice none 0 0, .slice none 0 0, .int .i64 0, .int .i64 0, .int .i64 0, .int .i64 0, .int .i64 0] 73)) (.cells #[.int .i64 15, .int .i64 (ka : Int), .int .i64 xb, .int .i64 xc] 99); rwa [al_size, al_size] at this)
  have HS := sA (show (((w.alloc (.cells #[.slice (some ra) m.regs.length c0, .slice A1 m.slots.length c1, .int .i64 E.tags, .int .i64 E.skills, .int .i64 E.q, .int .i64 E.reqs, .int .i64 m.rule] 73)).alloc (.cells #[.slice none 0 0, .slice none 0 0, .int .i64 0, .int .i64 0, .int .i64 0, .int .i64 0, .int .i64 0] 73)).alloc (.cells #[.int .i64 15, .int .i64 (ka : Int), .int .i64 xb, .int .i64 xc] 99)).heap.size = w.heap.size + 3 by simp only [al_size])
  replace x0 := pC HW.out x0; replace x1 := pC HW.out x1; replace x2 := pC HW.out x2; replace x3 := pC HW.out x3
  replace z0 := pC HW3.out z0
  clear t0 t1 hB hA0 hA1 hF0 hF1 hF ih hx
  unfold memV
  have p0 : (y0 == 0) = false := beq_eq_false_iff_ne.2 hz; have p1 : decide (y0 = 0) = false := decide_eq_false hz
  clear hz
  have q1 : IntKind.i64.wrap ((k : Int) + 1) = ((k + 1 : Nat) : Int) := by rw [IntWalk.i64_in _ (by omega)]; omega
  go_enter Tryz.func29, Tryz.ntmps29
  go_wp2_with fail
  have hcall := HI.out _ (some ra) c0 A1 c1 _ (Kd.C_below HB.out HW3.out) (Kd.C_below hA.out.1 HW3.out) (Kd.C_below hA.out.2 HW3.out) HF0.out HF1.out (by intro b hb; rw [HS.out]; rcases hb with hb | hb; (have := HF.out b hb; omega); omega) HCP.out
  unfold memV at hcall
  clear HI
  go_at_call 29
  refine (hcall).mono ?_
  rintro e w1 ⟨⟨A2, c2, A3, c3, rfl, q0, q1, q2, q3, q4⟩, hb⟩
  have HB1 := sA (bC HW3.out hb)
  have HQ := sA (And.intro q0 (And.intro q1 (And.intro q2 (And.intro q3 q4))))
  have hR1 := bB HR.out hb
  obtain ⟨r1, r2⟩ := lay0 hR1
  clear q0 q1 q2 q3 q4 hb hR1
  go_wp2_with fail
  refine bodyPost_ret (v := memV E mF A2 c2 A3 c3) (by simp [results, Tryz.results29, go_sem, r1, r2, memV]) rfl ⟨⟨A2, c2, A3, c3, rfl, ?_, ?_, fun ad e hp hb => HQ.out.2.2.1 ad e hp (.inl hb), fun ad e hp hb => HQ.out.2.2.2.1 ad e hp (.inl hb), HQ.out.2.2.2.2⟩, ?_⟩
  · refine int_move HQ.out.1 fun ad he hp => ?_
    have hne := HQ.out.2.2.1 ad he hp
    have hn1 : ad.block ≠ w.heap.size + 1 := fun h => hne (.inr ⟨by omega, by omega⟩)
    with_reducible repeat (first | rfl | refine far_set hn1 ?_)
  · refine int_move HQ.out.2.1 fun ad he hp => ?_
    have hne := HQ.out.2.2.2.1 ad he hp
    have hn1 : ad.block ≠ w.heap.size + 1 := fun h => hne (.inr ⟨by omega, by omega⟩)
    with_reducible repeat (first | rfl | refine far_set hn1 ?_)
  · with_reducible repeat (first | exact HB1.out | refine bel_set ?_ (by omega) _)
set_option maxRecDepth 100000 in
set_option maxHeartbeats 4000000 in
theorem spec_exec_jnz0 (B : Option Addr) (bc : Nat) (b : List Ins) (E : Env) (mF : Mem) (k : Nat) (m : Mem) (hk : k < b.length) (hmb : b.length ≤ 16384) (x : Ins) (hx : b.getD k zIns = x) (h : x.op = 16) (ka : Nat) (ha : x.a = ka) (ha0 : ka < m.regs.length) (hz : atI m.regs ka = 0) (ih : Runs B bc b E mF (k + 1) m) : Runs B bc b E mF k m := by
  intro w A0 c0 A1 c1 F hB hA0 hA1 hF0 hF1 hF hcap
  have hka : (ka : Int) < (m.regs.length : Int) := by omega
  obtain ⟨ra, rfl, z0⟩ := int_at hA0 ha0
  generalize hy0 : atI m.regs ka = y0 at *
  have HY0 := sA hy0; clear hy0
  have hA := sA (And.intro hA0 hA1); have HB := sA hB; have HI := sA ih; have HF := sA hF; have HCP := sA hcap; clear hcap
  have HF0 := sA (NotIn.new hA0 hF0 3); have HF1 := sA (NotIn.new hA1 hF1 3)
  obtain ⟨ad, e0, t0, t1⟩ := Kd.flat_cells (d := kIns) rfl hB zIns k hk
  cases e0
  rw [hx] at t0 t1
  have x0 := t0 _ rfl; have x1 := t1 0 _ rfl; have x2 := t1 1 _ rfl; have x3 := t1 2 _ rfl
  obtain ⟨xo, xa, xb, xc⟩ := x
  dsimp only at *
  subst h ha
  have HW := sA (bA (bA (Below.refl w.heap.size w) (.cells #[.slice (some ra) m.regs.length c0, .slice A1 m.slots.length c1, .int .i64 E.tags, .int .i64 E.skills, .int .i64 E.q, .int .i64 E.reqs, .int .i64 m.rule] 73)) (.cells #[.slice none 0 0, .slice none 0 0, .int .i64 0, .int .i64 0, .int .i64 0, .int .i64 0, .int .i64 0] 73))
  have HW3 := sA (bA HW.out (.cells #[.int .i64 16, .int .i64 (ka : Int), .int .i64 xb, .int .i64 xc] 99))
  have HR := sA (show (((w.alloc (.cells #[.slice (some ra) m.regs.length c0, .slice A1 m.slots.length c1, .int .i64 E.tags, .int .i64 E.skills, .int .i64 E.q, .int .i64 E.reqs, .int .i64 m.rule] 73)).alloc (.cells #[.slice none 0 0, .slice none 0 0, .int .i64 0, .int .i64 0, .int .i64 0, .int .i64 0, .int .i64 0] 73)).alloc (.cells #[.int .i64 16, .int .i64 (ka : Int), .int .i64 xb, .int .i64 xc] 99)).heap[w.heap.size + 1]? = some (.cells #[.slice none 0 0, .slice none 0 0, .int .i64 0, .int .i64 0, .int .i64 0, .int .i64 0, .int .i64 0] 73 (0, 0)) from blk_box (by have := al_new (w.alloc (.cells #[.slice (some ra) m.regs.length c0, .slice A1 m.slots.length c1, .int .i64 E.tags, .int .i64 E.skills, .int .i64 E.q, .int .i64 E.reqs, .int .i64 m.rule] 73)) (.cells #[.slice none 0 0, .slice none 0 0, .int .i64 0, .int .i64 0, .int .i64 0, .int .i64 0, .int .i64 0] 73); rwa [al_size] at this) (.cells #[.int .i64 16, .int .i64 (ka : Int), .int .i64 xb, .int .i64 xc] 99))
  have HM := sA (show (((w.alloc (.cells #[.slice (some ra) m.regs.length c0, .slice A1 m.slots.length c1, .int .i64 E.tags, .int .i64 E.skills, .int .i64 E.q, .int .i64 E.reqs, .int .i64 m.rule] 73)).alloc (.cells #[.slice none 0 0, .slice none 0 0, .int .i64 0, .int .i64 0, .int .i64 0, .int .i64 0, .int .i64 0] 73)).alloc (.cells #[.int .i64 16, .int .i64 (ka : Int), .int .i64 xb, .int .i64 xc] 99)).heap[w.heap.size]? = some (.cells #[.slice (some ra) m.regs.length c0, .slice A1 m.slots.length c1, .int .i64 E.tags, .int .i64 E.skills, .int .i64 E.q, .int .i64 E.reqs, .int .i64 m.rule] 73 (0, 0)) from blk_box (blk_box (al_new w (.cells #[.slice (some ra) m.regs.length c0, .slice A1 m.slots.length c1, .int .i64 E.tags, .int .i64 E.skills, .int .i64 E.q, .int .i64 E.reqs, .int .i64 m.rule] 73)) (.cells #[.slice none 0 0, .slice none 0 0, .int .i64 0, .int .i64 0, .int .i64 0, .int .i64 0, .int .i64 0] 73)) (.cells #[.int .i64 16, .int .i64 (ka : Int), .int .i64 xb, .int .i64 xc] 99))
  have HX := sA (show (((w.alloc (.cells #[.slice (some ra) m.regs.length c0, .slice A1 m.slots.length c1, .int .i64 E.tags, .int .i64 E.skills, .int .i64 E.q, .int .i64 E.reqs, .int .i64 m.rule] 73)).alloc (.cells #[.slice none 0 0, .slice none 0 0, .int .i64 0, .int .i64 0, .int .i64 0, .int .i64 0, .int .i64 0] 73)).alloc (.cells #[.int .i64 16, .int .i64 (ka : Int), .int .i64 xb, .int .i64 xc] 99)).heap[w.heap.size + 1 + 1]? = some (.cells #[.int .i64 16, .int .i64 (ka : Int), .int .i64 xb, .int .i64 xc] 99 (0, 0)) from by have := al_new ((w.alloc (.cells #[.slice (some ra) m.regs.length c0, .slice A1 m.slots.length c1, .int .i64 E.tags, .int .i64 E.skills, .int .i64 E.q, .int .i64 E.reqs, .int .i64 m.rule] 73)).alloc (.cells #[.slice none 0 0, .slice none 0 0, .int .i64 0, .int .i64 0, .int .i64 0, .int .i64 0, .int .i64 0] 73)) (.cells #[.int .i64 16, .int .i64 (ka : Int), .int .i64 xb, .int .i64 xc] 99); rwa [al_size, al_size] at this)
  have HS := sA (show (((w.alloc (.cells #[.slice (some ra) m.regs.length c0, .slice A1 m.slots.length c1, .int .i64 E.tags, .int .i64 E.skills, .int .i64 E.q, .int .i64 E.reqs, .int .i64 m.rule] 73)).alloc (.cells #[.slice none 0 0, .slice none 0 0, .int .i64 0, .int .i64 0, .int .i64 0, .int .i64 0, .int .i64 0] 73)).alloc (.cells #[.int .i64 16, .int .i64 (ka : Int), .int .i64 xb, .int .i64 xc] 99)).heap.size = w.heap.size + 3 by simp only [al_size])
  replace x0 := pC HW.out x0; replace x1 := pC HW.out x1; replace x2 := pC HW.out x2; replace x3 := pC HW.out x3
  replace z0 := pC HW3.out z0
  clear t0 t1 hB hA0 hA1 hF0 hF1 hF ih hx
  unfold memV
  have p0 : (y0 == 0) = true := beq_iff_eq.2 hz; have p1 : decide (y0 = 0) = true := decide_eq_true hz
  clear hz
  have q1 : IntKind.i64.wrap ((k : Int) + 1) = ((k + 1 : Nat) : Int) := by rw [IntWalk.i64_in _ (by omega)]; omega
  go_enter Tryz.func29, Tryz.ntmps29
  go_wp2_with fail
  have hcall := HI.out _ (some ra) c0 A1 c1 _ (Kd.C_below HB.out HW3.out) (Kd.C_below hA.out.1 HW3.out) (Kd.C_below hA.out.2 HW3.out) HF0.out HF1.out (by intro b hb; rw [HS.out]; rcases hb with hb | hb; (have := HF.out b hb; omega); omega) HCP.out
  unfold memV at hcall
  clear HI
  go_at_call 29
  refine (hcall).mono ?_
  rintro e w1 ⟨⟨A2, c2, A3, c3, rfl, q0, q1, q2, q3, q4⟩, hb⟩
  have HB1 := sA (bC HW3.out hb)
  have HQ := sA (And.intro q0 (And.intro q1 (And.intro q2 (And.intro q3 q4))))
  have hR1 := bB HR.out hb
  obtain ⟨r1, r2⟩ := lay0 hR1
  clear q0 q1 q2 q3 q4 hb hR1
  go_wp2_with fail
  refine bodyPost_ret (v := memV E mF A2 c2 A3 c3) (by simp [results, Tryz.results29, go_sem, r1, r2, memV]) rfl ⟨⟨A2, c2, A3, c3, rfl, ?_, ?_, fun ad e hp hb => HQ.out.2.2.1 ad e hp (.inl hb), fun ad e hp hb => HQ.out.2.2.2.1 ad e hp (.inl hb), HQ.out.2.2.2.2⟩, ?_⟩
  · refine int_move HQ.out.1 fun ad he hp => ?_
    have hne := HQ.out.2.2.1 ad he hp
    have hn1 : ad.block ≠ w.heap.size + 1 := fun h => hne (.inr ⟨by omega, by omega⟩)
    with_reducible repeat (first | rfl | refine far_set hn1 ?_)
  · refine int_move HQ.out.2.1 fun ad he hp => ?_
    have hne := HQ.out.2.2.2.1 ad he hp
    have hn1 : ad.block ≠ w.heap.size + 1 := fun h => hne (.inr ⟨by omega, by omega⟩)
    with_reducible repeat (first | rfl | refine far_set hn1 ?_)
  · with_reducible repeat (first | exact HB1.out | refine bel_set ?_ (by omega) _)
set_option maxRecDepth 100000 in
set_option maxHeartbeats 4000000 in
theorem spec_exec_jnz1 (B : Option Addr) (bc : Nat) (b : List Ins) (E : Env) (mF : Mem) (k : Nat) (m : Mem) (hk : k < b.length) (hmb : b.length ≤ 16384) (x : Ins) (hx : b.getD k zIns = x) (h : x.op = 16) (ka : Nat) (ha : x.a = ka) (ha0 : ka < m.regs.length) (hz : atI m.regs ka ≠ 0) (kb : Nat) (hb : x.b = kb) (ih : Runs B bc b E mF kb m) : Runs B bc b E mF k m := by
  intro w A0 c0 A1 c1 F hB hA0 hA1 hF0 hF1 hF hcap
  have hka : (ka : Int) < (m.regs.length : Int) := by omega
  obtain ⟨ra, rfl, z0⟩ := int_at hA0 ha0
  generalize hy0 : atI m.regs ka = y0 at *
  have HY0 := sA hy0; clear hy0
  have hA := sA (And.intro hA0 hA1); have HB := sA hB; have HI := sA ih; have HF := sA hF; have HCP := sA hcap; clear hcap
  have HF0 := sA (NotIn.new hA0 hF0 3); have HF1 := sA (NotIn.new hA1 hF1 3)
  obtain ⟨ad, e0, t0, t1⟩ := Kd.flat_cells (d := kIns) rfl hB zIns k hk
  cases e0
  rw [hx] at t0 t1
  have x0 := t0 _ rfl; have x1 := t1 0 _ rfl; have x2 := t1 1 _ rfl; have x3 := t1 2 _ rfl
  obtain ⟨xo, xa, xb, xc⟩ := x
  dsimp only at *
  subst h hb ha
  have HW := sA (bA (bA (Below.refl w.heap.size w) (.cells #[.slice (some ra) m.regs.length c0, .slice A1 m.slots.length c1, .int .i64 E.tags, .int .i64 E.skills, .int .i64 E.q, .int .i64 E.reqs, .int .i64 m.rule] 73)) (.cells #[.slice none 0 0, .slice none 0 0, .int .i64 0, .int .i64 0, .int .i64 0, .int .i64 0, .int .i64 0] 73))
  have HW3 := sA (bA HW.out (.cells #[.int .i64 16, .int .i64 (ka : Int), .int .i64 (kb : Int), .int .i64 xc] 99))
  have HR := sA (show (((w.alloc (.cells #[.slice (some ra) m.regs.length c0, .slice A1 m.slots.length c1, .int .i64 E.tags, .int .i64 E.skills, .int .i64 E.q, .int .i64 E.reqs, .int .i64 m.rule] 73)).alloc (.cells #[.slice none 0 0, .slice none 0 0, .int .i64 0, .int .i64 0, .int .i64 0, .int .i64 0, .int .i64 0] 73)).alloc (.cells #[.int .i64 16, .int .i64 (ka : Int), .int .i64 (kb : Int), .int .i64 xc] 99)).heap[w.heap.size + 1]? = some (.cells #[.slice none 0 0, .slice none 0 0, .int .i64 0, .int .i64 0, .int .i64 0, .int .i64 0, .int .i64 0] 73 (0, 0)) from blk_box (by have := al_new (w.alloc (.cells #[.slice (some ra) m.regs.length c0, .slice A1 m.slots.length c1, .int .i64 E.tags, .int .i64 E.skills, .int .i64 E.q, .int .i64 E.reqs, .int .i64 m.rule] 73)) (.cells #[.slice none 0 0, .slice none 0 0, .int .i64 0, .int .i64 0, .int .i64 0, .int .i64 0, .int .i64 0] 73); rwa [al_size] at this) (.cells #[.int .i64 16, .int .i64 (ka : Int), .int .i64 (kb : Int), .int .i64 xc] 99))
  have HM := sA (show (((w.alloc (.cells #[.slice (some ra) m.regs.length c0, .slice A1 m.slots.length c1, .int .i64 E.tags, .int .i64 E.skills, .int .i64 E.q, .int .i64 E.reqs, .int .i64 m.rule] 73)).alloc (.cells #[.slice none 0 0, .slice none 0 0, .int .i64 0, .int .i64 0, .int .i64 0, .int .i64 0, .int .i64 0] 73)).alloc (.cells #[.int .i64 16, .int .i64 (ka : Int), .int .i64 (kb : Int), .int .i64 xc] 99)).heap[w.heap.size]? = some (.cells #[.slice (some ra) m.regs.length c0, .slice A1 m.slots.length c1, .int .i64 E.tags, .int .i64 E.skills, .int .i64 E.q, .int .i64 E.reqs, .int .i64 m.rule] 73 (0, 0)) from blk_box (blk_box (al_new w (.cells #[.slice (some ra) m.regs.length c0, .slice A1 m.slots.length c1, .int .i64 E.tags, .int .i64 E.skills, .int .i64 E.q, .int .i64 E.reqs, .int .i64 m.rule] 73)) (.cells #[.slice none 0 0, .slice none 0 0, .int .i64 0, .int .i64 0, .int .i64 0, .int .i64 0, .int .i64 0] 73)) (.cells #[.int .i64 16, .int .i64 (ka : Int), .int .i64 (kb : Int), .int .i64 xc] 99))
  have HX := sA (show (((w.alloc (.cells #[.slice (some ra) m.regs.length c0, .slice A1 m.slots.length c1, .int .i64 E.tags, .int .i64 E.skills, .int .i64 E.q, .int .i64 E.reqs, .int .i64 m.rule] 73)).alloc (.cells #[.slice none 0 0, .slice none 0 0, .int .i64 0, .int .i64 0, .int .i64 0, .int .i64 0, .int .i64 0] 73)).alloc (.cells #[.int .i64 16, .int .i64 (ka : Int), .int .i64 (kb : Int), .int .i64 xc] 99)).heap[w.heap.size + 1 + 1]? = some (.cells #[.int .i64 16, .int .i64 (ka : Int), .int .i64 (kb : Int), .int .i64 xc] 99 (0, 0)) from by have := al_new ((w.alloc (.cells #[.slice (some ra) m.regs.length c0, .slice A1 m.slots.length c1, .int .i64 E.tags, .int .i64 E.skills, .int .i64 E.q, .int .i64 E.reqs, .int .i64 m.rule] 73)).alloc (.cells #[.slice none 0 0, .slice none 0 0, .int .i64 0, .int .i64 0, .int .i64 0, .int .i64 0, .int .i64 0] 73)) (.cells #[.int .i64 16, .int .i64 (ka : Int), .int .i64 (kb : Int), .int .i64 xc] 99); rwa [al_size, al_size] at this)
  have HS := sA (show (((w.alloc (.cells #[.slice (some ra) m.regs.length c0, .slice A1 m.slots.length c1, .int .i64 E.tags, .int .i64 E.skills, .int .i64 E.q, .int .i64 E.reqs, .int .i64 m.rule] 73)).alloc (.cells #[.slice none 0 0, .slice none 0 0, .int .i64 0, .int .i64 0, .int .i64 0, .int .i64 0, .int .i64 0] 73)).alloc (.cells #[.int .i64 16, .int .i64 (ka : Int), .int .i64 (kb : Int), .int .i64 xc] 99)).heap.size = w.heap.size + 3 by simp only [al_size])
  replace x0 := pC HW.out x0; replace x1 := pC HW.out x1; replace x2 := pC HW.out x2; replace x3 := pC HW.out x3
  replace z0 := pC HW3.out z0
  clear t0 t1 hB hA0 hA1 hF0 hF1 hF ih hx
  unfold memV
  have p0 : (y0 == 0) = false := beq_eq_false_iff_ne.2 hz; have p1 : decide (y0 = 0) = false := decide_eq_false hz
  clear hz
  go_enter Tryz.func29, Tryz.ntmps29
  go_wp2_with fail
  have hcall := HI.out _ (some ra) c0 A1 c1 _ (Kd.C_below HB.out HW3.out) (Kd.C_below hA.out.1 HW3.out) (Kd.C_below hA.out.2 HW3.out) HF0.out HF1.out (by intro b hb; rw [HS.out]; rcases hb with hb | hb; (have := HF.out b hb; omega); omega) HCP.out
  unfold memV at hcall
  clear HI
  go_at_call 29
  refine (hcall).mono ?_
  rintro e w1 ⟨⟨A2, c2, A3, c3, rfl, q0, q1, q2, q3, q4⟩, hb⟩
  have HB1 := sA (bC HW3.out hb)
  have HQ := sA (And.intro q0 (And.intro q1 (And.intro q2 (And.intro q3 q4))))
  have hR1 := bB HR.out hb
  obtain ⟨r1, r2⟩ := lay0 hR1
  clear q0 q1 q2 q3 q4 hb hR1
  go_wp2_with fail
  refine bodyPost_ret (v := memV E mF A2 c2 A3 c3) (by simp [results, Tryz.results29, go_sem, r1, r2, memV]) rfl ⟨⟨A2, c2, A3, c3, rfl, ?_, ?_, fun ad e hp hb => HQ.out.2.2.1 ad e hp (.inl hb), fun ad e hp hb => HQ.out.2.2.2.1 ad e hp (.inl hb), HQ.out.2.2.2.2⟩, ?_⟩
  · refine int_move HQ.out.1 fun ad he hp => ?_
    have hne := HQ.out.2.2.1 ad he hp
    have hn1 : ad.block ≠ w.heap.size + 1 := fun h => hne (.inr ⟨by omega, by omega⟩)
    with_reducible repeat (first | rfl | refine far_set hn1 ?_)
  · refine int_move HQ.out.2.1 fun ad he hp => ?_
    have hne := HQ.out.2.2.2.1 ad he hp
    have hn1 : ad.block ≠ w.heap.size + 1 := fun h => hne (.inr ⟨by omega, by omega⟩)
    with_reducible repeat (first | rfl | refine far_set hn1 ?_)
  · with_reducible repeat (first | exact HB1.out | refine bel_set ?_ (by omega) _)
set_option maxRecDepth 100000 in
set_option maxHeartbeats 4000000 in
theorem spec_exec_check1 (B : Option Addr) (bc : Nat) (b : List Ins) (E : Env) (mF : Mem) (k : Nat) (m : Mem) (hk : k < b.length) (hmb : b.length ≤ 16384) (x : Ins) (hx : b.getD k zIns = x) (h : x.op = 18) (ka : Nat) (ha : x.a = ka) (ha0 : ka < m.regs.length) (hz : atI m.regs ka ≠ 0) (ih : Runs B bc b E mF (k + 1) m) : Runs B bc b E mF k m := by
  intro w A0 c0 A1 c1 F hB hA0 hA1 hF0 hF1 hF hcap
  have hka : (ka : Int) < (m.regs.length : Int) := by omega
  obtain ⟨ra, rfl, z0⟩ := int_at hA0 ha0
  generalize hy0 : atI m.regs ka = y0 at *
  have HY0 := sA hy0; clear hy0
  have hA := sA (And.intro hA0 hA1); have HB := sA hB; have HI := sA ih; have HF := sA hF; have HCP := sA hcap; clear hcap
  have HF0 := sA (NotIn.new hA0 hF0 3); have HF1 := sA (NotIn.new hA1 hF1 3)
  obtain ⟨ad, e0, t0, t1⟩ := Kd.flat_cells (d := kIns) rfl hB zIns k hk
  cases e0
  rw [hx] at t0 t1
  have x0 := t0 _ rfl; have x1 := t1 0 _ rfl; have x2 := t1 1 _ rfl; have x3 := t1 2 _ rfl
  obtain ⟨xo, xa, xb, xc⟩ := x
  dsimp only at *
  subst h ha
  have HW := sA (bA (bA (Below.refl w.heap.size w) (.cells #[.slice (some ra) m.regs.length c0, .slice A1 m.slots.length c1, .int .i64 E.tags, .int .i64 E.skills, .int .i64 E.q, .int .i64 E.reqs, .int .i64 m.rule] 73)) (.cells #[.slice none 0 0, .slice none 0 0, .int .i64 0, .int .i64 0, .int .i64 0, .int .i64 0, .int .i64 0] 73))
  have HW3 := sA (bA HW.out (.cells #[.int .i64 18, .int .i64 (ka : Int), .int .i64 xb, .int .i64 xc] 99))
  have HR := sA (show (((w.alloc (.cells #[.slice (some ra) m.regs.length c0, .slice A1 m.slots.length c1, .int .i64 E.tags, .int .i64 E.skills, .int .i64 E.q, .int .i64 E.reqs, .int .i64 m.rule] 73)).alloc (.cells #[.slice none 0 0, .slice none 0 0, .int .i64 0, .int .i64 0, .int .i64 0, .int .i64 0, .int .i64 0] 73)).alloc (.cells #[.int .i64 18, .int .i64 (ka : Int), .int .i64 xb, .int .i64 xc] 99)).heap[w.heap.size + 1]? = some (.cells #[.slice none 0 0, .slice none 0 0, .int .i64 0, .int .i64 0, .int .i64 0, .int .i64 0, .int .i64 0] 73 (0, 0)) from blk_box (by have := al_new (w.alloc (.cells #[.slice (some ra) m.regs.length c0, .slice A1 m.slots.length c1, .int .i64 E.tags, .int .i64 E.skills, .int .i64 E.q, .int .i64 E.reqs, .int .i64 m.rule] 73)) (.cells #[.slice none 0 0, .slice none 0 0, .int .i64 0, .int .i64 0, .int .i64 0, .int .i64 0, .int .i64 0] 73); rwa [al_size] at this) (.cells #[.int .i64 18, .int .i64 (ka : Int), .int .i64 xb, .int .i64 xc] 99))
  have HM := sA (show (((w.alloc (.cells #[.slice (some ra) m.regs.length c0, .slice A1 m.slots.length c1, .int .i64 E.tags, .int .i64 E.skills, .int .i64 E.q, .int .i64 E.reqs, .int .i64 m.rule] 73)).alloc (.cells #[.slice none 0 0, .slice none 0 0, .int .i64 0, .int .i64 0, .int .i64 0, .int .i64 0, .int .i64 0] 73)).alloc (.cells #[.int .i64 18, .int .i64 (ka : Int), .int .i64 xb, .int .i64 xc] 99)).heap[w.heap.size]? = some (.cells #[.slice (some ra) m.regs.length c0, .slice A1 m.slots.length c1, .int .i64 E.tags, .int .i64 E.skills, .int .i64 E.q, .int .i64 E.reqs, .int .i64 m.rule] 73 (0, 0)) from blk_box (blk_box (al_new w (.cells #[.slice (some ra) m.regs.length c0, .slice A1 m.slots.length c1, .int .i64 E.tags, .int .i64 E.skills, .int .i64 E.q, .int .i64 E.reqs, .int .i64 m.rule] 73)) (.cells #[.slice none 0 0, .slice none 0 0, .int .i64 0, .int .i64 0, .int .i64 0, .int .i64 0, .int .i64 0] 73)) (.cells #[.int .i64 18, .int .i64 (ka : Int), .int .i64 xb, .int .i64 xc] 99))
  have HX := sA (show (((w.alloc (.cells #[.slice (some ra) m.regs.length c0, .slice A1 m.slots.length c1, .int .i64 E.tags, .int .i64 E.skills, .int .i64 E.q, .int .i64 E.reqs, .int .i64 m.rule] 73)).alloc (.cells #[.slice none 0 0, .slice none 0 0, .int .i64 0, .int .i64 0, .int .i64 0, .int .i64 0, .int .i64 0] 73)).alloc (.cells #[.int .i64 18, .int .i64 (ka : Int), .int .i64 xb, .int .i64 xc] 99)).heap[w.heap.size + 1 + 1]? = some (.cells #[.int .i64 18, .int .i64 (ka : Int), .int .i64 xb, .int .i64 xc] 99 (0, 0)) from by have := al_new ((w.alloc (.cells #[.slice (some ra) m.regs.length c0, .slice A1 m.slots.length c1, .int .i64 E.tags, .int .i64 E.skills, .int .i64 E.q, .int .i64 E.reqs, .int .i64 m.rule] 73)).alloc (.cells #[.slice none 0 0, .slice none 0 0, .int .i64 0, .int .i64 0, .int .i64 0, .int .i64 0, .int .i64 0] 73)) (.cells #[.int .i64 18, .int .i64 (ka : Int), .int .i64 xb, .int .i64 xc] 99); rwa [al_size, al_size] at this)
  have HS := sA (show (((w.alloc (.cells #[.slice (some ra) m.regs.length c0, .slice A1 m.slots.length c1, .int .i64 E.tags, .int .i64 E.skills, .int .i64 E.q, .int .i64 E.reqs, .int .i64 m.rule] 73)).alloc (.cells #[.slice none 0 0, .slice none 0 0, .int .i64 0, .int .i64 0, .int .i64 0, .int .i64 0, .int .i64 0] 73)).alloc (.cells #[.int .i64 18, .int .i64 (ka : Int), .int .i64 xb, .int .i64 xc] 99)).heap.size = w.heap.size + 3 by simp only [al_size])
  replace x0 := pC HW.out x0; replace x1 := pC HW.out x1; replace x2 := pC HW.out x2; replace x3 := pC HW.out x3
  replace z0 := pC HW3.out z0
  clear t0 t1 hB hA0 hA1 hF0 hF1 hF ih hx
  unfold memV
  have p0 : (y0 == 0) = false := beq_eq_false_iff_ne.2 hz; have p1 : decide (y0 = 0) = false := decide_eq_false hz
  clear hz
  have q1 : IntKind.i64.wrap ((k : Int) + 1) = ((k + 1 : Nat) : Int) := by rw [IntWalk.i64_in _ (by omega)]; omega
  go_enter Tryz.func29, Tryz.ntmps29
  go_wp2_with fail
  have hcall := HI.out _ (some ra) c0 A1 c1 _ (Kd.C_below HB.out HW3.out) (Kd.C_below hA.out.1 HW3.out) (Kd.C_below hA.out.2 HW3.out) HF0.out HF1.out (by intro b hb; rw [HS.out]; rcases hb with hb | hb; (have := HF.out b hb; omega); omega) HCP.out
  unfold memV at hcall
  clear HI
  go_at_call 29
  refine (hcall).mono ?_
  rintro e w1 ⟨⟨A2, c2, A3, c3, rfl, q0, q1, q2, q3, q4⟩, hb⟩
  have HB1 := sA (bC HW3.out hb)
  have HQ := sA (And.intro q0 (And.intro q1 (And.intro q2 (And.intro q3 q4))))
  have hR1 := bB HR.out hb
  obtain ⟨r1, r2⟩ := lay0 hR1
  clear q0 q1 q2 q3 q4 hb hR1
  go_wp2_with fail
  refine bodyPost_ret (v := memV E mF A2 c2 A3 c3) (by simp [results, Tryz.results29, go_sem, r1, r2, memV]) rfl ⟨⟨A2, c2, A3, c3, rfl, ?_, ?_, fun ad e hp hb => HQ.out.2.2.1 ad e hp (.inl hb), fun ad e hp hb => HQ.out.2.2.2.1 ad e hp (.inl hb), HQ.out.2.2.2.2⟩, ?_⟩
  · refine int_move HQ.out.1 fun ad he hp => ?_
    have hne := HQ.out.2.2.1 ad he hp
    have hn1 : ad.block ≠ w.heap.size + 1 := fun h => hne (.inr ⟨by omega, by omega⟩)
    with_reducible repeat (first | rfl | refine far_set hn1 ?_)
  · refine int_move HQ.out.2.1 fun ad he hp => ?_
    have hne := HQ.out.2.2.2.1 ad he hp
    have hn1 : ad.block ≠ w.heap.size + 1 := fun h => hne (.inr ⟨by omega, by omega⟩)
    with_reducible repeat (first | rfl | refine far_set hn1 ?_)
  · with_reducible repeat (first | exact HB1.out | refine bel_set ?_ (by omega) _)
set_option maxRecDepth 100000 in
set_option maxHeartbeats 4000000 in
theorem spec_exec_check0 (B : Option Addr) (bc : Nat) (b : List Ins) (E : Env) (mF : Mem) (k : Nat) (m : Mem) (hk : k < b.length) (hmb : b.length ≤ 16384) (x : Ins) (hx : b.getD k zIns = x) (h : x.op = 18) (ka : Nat) (ha : x.a = ka) (ha0 : ka < m.regs.length) (hz : atI m.regs ka = 0) (hF' : mF = { m with rule := x.b }) : Runs B bc b E mF k m := by
  intro w A0 c0 A1 c1 F hB hA0 hA1 hF0 hF1 hF hcap
  have hka : (ka : Int) < (m.regs.length : Int) := by omega
  obtain ⟨ra, rfl, z0⟩ := int_at hA0 ha0
  generalize hy0 : atI m.regs ka = y0 at *
  have HY0 := sA hy0; clear hy0
  have hA := sA (And.intro hA0 hA1); have HB := sA hB; have HF := sA hF; have HCP := sA hcap; clear hcap
  have HF0 := sA (NotIn.new hA0 hF0 3); have HF1 := sA (NotIn.new hA1 hF1 3)
  obtain ⟨ad, e0, t0, t1⟩ := Kd.flat_cells (d := kIns) rfl hB zIns k hk
  cases e0
  rw [hx] at t0 t1
  have x0 := t0 _ rfl; have x1 := t1 0 _ rfl; have x2 := t1 1 _ rfl; have x3 := t1 2 _ rfl
  obtain ⟨xo, xa, xb, xc⟩ := x
  dsimp only at *
  subst h ha hF'
  have HW := sA (bA (bA (Below.refl w.heap.size w) (.cells #[.slice (some ra) m.regs.length c0, .slice A1 m.slots.length c1, .int .i64 E.tags, .int .i64 E.skills, .int .i64 E.q, .int .i64 E.reqs, .int .i64 m.rule] 73)) (.cells #[.slice none 0 0, .slice none 0 0, .int .i64 0, .int .i64 0, .int .i64 0, .int .i64 0, .int .i64 0] 73))
  have HW3 := sA (bA HW.out (.cells #[.int .i64 18, .int .i64 (ka : Int), .int .i64 xb, .int .i64 xc] 99))
  have HR := sA (show (((w.alloc (.cells #[.slice (some ra) m.regs.length c0, .slice A1 m.slots.length c1, .int .i64 E.tags, .int .i64 E.skills, .int .i64 E.q, .int .i64 E.reqs, .int .i64 m.rule] 73)).alloc (.cells #[.slice none 0 0, .slice none 0 0, .int .i64 0, .int .i64 0, .int .i64 0, .int .i64 0, .int .i64 0] 73)).alloc (.cells #[.int .i64 18, .int .i64 (ka : Int), .int .i64 xb, .int .i64 xc] 99)).heap[w.heap.size + 1]? = some (.cells #[.slice none 0 0, .slice none 0 0, .int .i64 0, .int .i64 0, .int .i64 0, .int .i64 0, .int .i64 0] 73 (0, 0)) from blk_box (by have := al_new (w.alloc (.cells #[.slice (some ra) m.regs.length c0, .slice A1 m.slots.length c1, .int .i64 E.tags, .int .i64 E.skills, .int .i64 E.q, .int .i64 E.reqs, .int .i64 m.rule] 73)) (.cells #[.slice none 0 0, .slice none 0 0, .int .i64 0, .int .i64 0, .int .i64 0, .int .i64 0, .int .i64 0] 73); rwa [al_size] at this) (.cells #[.int .i64 18, .int .i64 (ka : Int), .int .i64 xb, .int .i64 xc] 99))
  have HM := sA (show (((w.alloc (.cells #[.slice (some ra) m.regs.length c0, .slice A1 m.slots.length c1, .int .i64 E.tags, .int .i64 E.skills, .int .i64 E.q, .int .i64 E.reqs, .int .i64 m.rule] 73)).alloc (.cells #[.slice none 0 0, .slice none 0 0, .int .i64 0, .int .i64 0, .int .i64 0, .int .i64 0, .int .i64 0] 73)).alloc (.cells #[.int .i64 18, .int .i64 (ka : Int), .int .i64 xb, .int .i64 xc] 99)).heap[w.heap.size]? = some (.cells #[.slice (some ra) m.regs.length c0, .slice A1 m.slots.length c1, .int .i64 E.tags, .int .i64 E.skills, .int .i64 E.q, .int .i64 E.reqs, .int .i64 m.rule] 73 (0, 0)) from blk_box (blk_box (al_new w (.cells #[.slice (some ra) m.regs.length c0, .slice A1 m.slots.length c1, .int .i64 E.tags, .int .i64 E.skills, .int .i64 E.q, .int .i64 E.reqs, .int .i64 m.rule] 73)) (.cells #[.slice none 0 0, .slice none 0 0, .int .i64 0, .int .i64 0, .int .i64 0, .int .i64 0, .int .i64 0] 73)) (.cells #[.int .i64 18, .int .i64 (ka : Int), .int .i64 xb, .int .i64 xc] 99))
  have HX := sA (show (((w.alloc (.cells #[.slice (some ra) m.regs.length c0, .slice A1 m.slots.length c1, .int .i64 E.tags, .int .i64 E.skills, .int .i64 E.q, .int .i64 E.reqs, .int .i64 m.rule] 73)).alloc (.cells #[.slice none 0 0, .slice none 0 0, .int .i64 0, .int .i64 0, .int .i64 0, .int .i64 0, .int .i64 0] 73)).alloc (.cells #[.int .i64 18, .int .i64 (ka : Int), .int .i64 xb, .int .i64 xc] 99)).heap[w.heap.size + 1 + 1]? = some (.cells #[.int .i64 18, .int .i64 (ka : Int), .int .i64 xb, .int .i64 xc] 99 (0, 0)) from by have := al_new ((w.alloc (.cells #[.slice (some ra) m.regs.length c0, .slice A1 m.slots.length c1, .int .i64 E.tags, .int .i64 E.skills, .int .i64 E.q, .int .i64 E.reqs, .int .i64 m.rule] 73)).alloc (.cells #[.slice none 0 0, .slice none 0 0, .int .i64 0, .int .i64 0, .int .i64 0, .int .i64 0, .int .i64 0] 73)) (.cells #[.int .i64 18, .int .i64 (ka : Int), .int .i64 xb, .int .i64 xc] 99); rwa [al_size, al_size] at this)
  have HS := sA (show (((w.alloc (.cells #[.slice (some ra) m.regs.length c0, .slice A1 m.slots.length c1, .int .i64 E.tags, .int .i64 E.skills, .int .i64 E.q, .int .i64 E.reqs, .int .i64 m.rule] 73)).alloc (.cells #[.slice none 0 0, .slice none 0 0, .int .i64 0, .int .i64 0, .int .i64 0, .int .i64 0, .int .i64 0] 73)).alloc (.cells #[.int .i64 18, .int .i64 (ka : Int), .int .i64 xb, .int .i64 xc] 99)).heap.size = w.heap.size + 3 by simp only [al_size])
  replace x0 := pC HW.out x0; replace x1 := pC HW.out x1; replace x2 := pC HW.out x2; replace x3 := pC HW.out x3
  replace z0 := pC HW3.out z0
  clear t0 t1 hB hA0 hA1 hF0 hF1 hF hx
  unfold memV
  have p0 : (y0 == 0) = true := beq_iff_eq.2 hz; have p1 : decide (y0 = 0) = true := decide_eq_true hz
  clear hz
  go_enter Tryz.func29, Tryz.ntmps29
  go_wp2_with fail
  refine bodyPost_ret (v := memV E { m with rule := xb } (some ra) c0 A1 c1) (by simp [results, Tryz.results29, go_sem, memV]) rfl ⟨⟨some ra, c0, A1, c1, rfl, ?_, ?_, fun ad e hp hb => HF0.out ad e hp (.inl hb), fun ad e hp hb => HF1.out ad e hp (.inl hb), HCP.out⟩, ?_⟩
  · exact Kd.C_below hA.out.1 (bA (bA (bA (Below.refl _ _) _) _) _)
  · exact Kd.C_below hA.out.2 (bA (bA (bA (Below.refl _ _) _) _) _)
  · exact bA (bA (bA (Below.refl _ _) _) _) _
set_option maxRecDepth 100000 in
set_option maxHeartbeats 4000000 in
theorem spec_exec_put (B : Option Addr) (bc : Nat) (b : List Ins) (E : Env) (mF : Mem) (k : Nat) (m : Mem) (hk : k < b.length) (hmb : b.length ≤ 16384) (x : Ins) (hx : b.getD k zIns = x) (ka : Nat) (ha : x.a = ka) (ha0 : ka < m.regs.length) (h15 : x.op ≠ 15) (h16 : x.op ≠ 16) (h17 : x.op ≠ 17) (h18 : x.op ≠ 18) (h19 : x.op ≠ 19) (hl : m.regs.length ≤ 1000) (hv : ∀ (W : World) (A0 : Option Addr) (c0 : Nat) (A1 : Option Addr) (c1 : Nat), kInt.C W A0 m.regs.length m.regs → kInt.C W A1 m.slots.length m.slots → Calls Tryz.prog 60 #[insVal x, memV E m A0 c0 A1 c1] W fun e w' => e = .returned (.int .i64 (insV E m x)) ∧ Below W.heap.size W w') (ih : Runs B bc b E mF (k + 1) { m with regs := putI m.regs x.a (insV E m x) }) : Runs B bc b E mF k m := by
  intro w A0 c0 A1 c1 F hB hA0 hA1 hF0 hF1 hF hcap
  have hka : (ka : Int) < (m.regs.length : Int) := by omega
  have HV := sA hv; clear hv
  have hA := sA (And.intro hA0 hA1); have HB := sA hB; have HI := sA ih; have HF := sA hF; have HCP := sA hcap; clear hcap
  have HF0 := sA (NotIn.new hA0 hF0 3); have HF1 := sA (NotIn.new hA1 hF1 3)
  obtain ⟨ad, e0, t0, t1⟩ := Kd.flat_cells (d := kIns) rfl hB zIns k hk
  cases e0
  rw [hx] at t0 t1
  have x0 := t0 _ rfl; have x1 := t1 0 _ rfl; have x2 := t1 1 _ rfl; have x3 := t1 2 _ rfl
  obtain ⟨xo, xa, xb, xc⟩ := x
  dsimp only at *
  subst ha
  have d17 : (xo == 17) = false := beq_eq_false_iff_ne.2 h17; have g17 : decide (xo = 17) = false := decide_eq_false h17; have d15 : (xo == 15) = false := beq_eq_false_iff_ne.2 h15; have g15 : decide (xo = 15) = false := decide_eq_false h15; have d16 : (xo == 16) = false := beq_eq_false_iff_ne.2 h16; have g16 : decide (xo = 16) = false := decide_eq_false h16; have d18 : (xo == 18) = false := beq_eq_false_iff_ne.2 h18; have g18 : decide (xo = 18) = false := decide_eq_false h18; have d19 : (xo == 19) = false := beq_eq_false_iff_ne.2 h19; have g19 : decide (xo = 19) = false := decide_eq_false h19;
  clear h15 h16 h17 h18 h19
  have HW := sA (bA (bA (Below.refl w.heap.size w) (.cells #[.slice A0 m.regs.length c0, .slice A1 m.slots.length c1, .int .i64 E.tags, .int .i64 E.skills, .int .i64 E.q, .int .i64 E.reqs, .int .i64 m.rule] 73)) (.cells #[.slice none 0 0, .slice none 0 0, .int .i64 0, .int .i64 0, .int .i64 0, .int .i64 0, .int .i64 0] 73))
  have HW3 := sA (bA HW.out (.cells #[.int .i64 xo, .int .i64 (ka : Int), .int .i64 xb, .int .i64 xc] 99))
  have HR := sA (show (((w.alloc (.cells #[.slice A0 m.regs.length c0, .slice A1 m.slots.length c1, .int .i64 E.tags, .int .i64 E.skills, .int .i64 E.q, .int .i64 E.reqs, .int .i64 m.rule] 73)).alloc (.cells #[.slice none 0 0, .slice none 0 0, .int .i64 0, .int .i64 0, .int .i64 0, .int .i64 0, .int .i64 0] 73)).alloc (.cells #[.int .i64 xo, .int .i64 (ka : Int), .int .i64 xb, .int .i64 xc] 99)).heap[w.heap.size + 1]? = some (.cells #[.slice none 0 0, .slice none 0 0, .int .i64 0, .int .i64 0, .int .i64 0, .int .i64 0, .int .i64 0] 73 (0, 0)) from blk_box (by have := al_new (w.alloc (.cells #[.slice A0 m.regs.length c0, .slice A1 m.slots.length c1, .int .i64 E.tags, .int .i64 E.skills, .int .i64 E.q, .int .i64 E.reqs, .int .i64 m.rule] 73)) (.cells #[.slice none 0 0, .slice none 0 0, .int .i64 0, .int .i64 0, .int .i64 0, .int .i64 0, .int .i64 0] 73); rwa [al_size] at this) (.cells #[.int .i64 xo, .int .i64 (ka : Int), .int .i64 xb, .int .i64 xc] 99))
  have HM := sA (show (((w.alloc (.cells #[.slice A0 m.regs.length c0, .slice A1 m.slots.length c1, .int .i64 E.tags, .int .i64 E.skills, .int .i64 E.q, .int .i64 E.reqs, .int .i64 m.rule] 73)).alloc (.cells #[.slice none 0 0, .slice none 0 0, .int .i64 0, .int .i64 0, .int .i64 0, .int .i64 0, .int .i64 0] 73)).alloc (.cells #[.int .i64 xo, .int .i64 (ka : Int), .int .i64 xb, .int .i64 xc] 99)).heap[w.heap.size]? = some (.cells #[.slice A0 m.regs.length c0, .slice A1 m.slots.length c1, .int .i64 E.tags, .int .i64 E.skills, .int .i64 E.q, .int .i64 E.reqs, .int .i64 m.rule] 73 (0, 0)) from blk_box (blk_box (al_new w (.cells #[.slice A0 m.regs.length c0, .slice A1 m.slots.length c1, .int .i64 E.tags, .int .i64 E.skills, .int .i64 E.q, .int .i64 E.reqs, .int .i64 m.rule] 73)) (.cells #[.slice none 0 0, .slice none 0 0, .int .i64 0, .int .i64 0, .int .i64 0, .int .i64 0, .int .i64 0] 73)) (.cells #[.int .i64 xo, .int .i64 (ka : Int), .int .i64 xb, .int .i64 xc] 99))
  have HX := sA (show (((w.alloc (.cells #[.slice A0 m.regs.length c0, .slice A1 m.slots.length c1, .int .i64 E.tags, .int .i64 E.skills, .int .i64 E.q, .int .i64 E.reqs, .int .i64 m.rule] 73)).alloc (.cells #[.slice none 0 0, .slice none 0 0, .int .i64 0, .int .i64 0, .int .i64 0, .int .i64 0, .int .i64 0] 73)).alloc (.cells #[.int .i64 xo, .int .i64 (ka : Int), .int .i64 xb, .int .i64 xc] 99)).heap[w.heap.size + 1 + 1]? = some (.cells #[.int .i64 xo, .int .i64 (ka : Int), .int .i64 xb, .int .i64 xc] 99 (0, 0)) from by have := al_new ((w.alloc (.cells #[.slice A0 m.regs.length c0, .slice A1 m.slots.length c1, .int .i64 E.tags, .int .i64 E.skills, .int .i64 E.q, .int .i64 E.reqs, .int .i64 m.rule] 73)).alloc (.cells #[.slice none 0 0, .slice none 0 0, .int .i64 0, .int .i64 0, .int .i64 0, .int .i64 0, .int .i64 0] 73)) (.cells #[.int .i64 xo, .int .i64 (ka : Int), .int .i64 xb, .int .i64 xc] 99); rwa [al_size, al_size] at this)
  have HS := sA (show (((w.alloc (.cells #[.slice A0 m.regs.length c0, .slice A1 m.slots.length c1, .int .i64 E.tags, .int .i64 E.skills, .int .i64 E.q, .int .i64 E.reqs, .int .i64 m.rule] 73)).alloc (.cells #[.slice none 0 0, .slice none 0 0, .int .i64 0, .int .i64 0, .int .i64 0, .int .i64 0, .int .i64 0] 73)).alloc (.cells #[.int .i64 xo, .int .i64 (ka : Int), .int .i64 xb, .int .i64 xc] 99)).heap.size = w.heap.size + 3 by simp only [al_size])
  replace x0 := pC HW.out x0; replace x1 := pC HW.out x1; replace x2 := pC HW.out x2; replace x3 := pC HW.out x3
  clear t0 t1 hB hA0 hA1 hF0 hF1 hF ih hx
  unfold memV
  generalize hvv : insV E m ⟨xo, (ka : Int), xb, xc⟩ = vv at *
  have hpl : (putI m.regs (ka : Int) vv).length = m.regs.length := by unfold putI; simp
  generalize hxs : putI m.regs (ka : Int) vv = xs' at *
  have HXS := sA hxs; have HVV := sA hvv; have HPL := sA hpl; clear hxs hvv hpl
  have q1 : IntKind.i64.wrap ((k : Int) + 1) = ((k + 1 : Nat) : Int) := by rw [IntWalk.i64_in _ (by omega)]; omega
  have HK := sA (And.intro hk hmb); have HL := sA (And.intro ha0 hl); clear hl
  go_enter Tryz.func29, Tryz.ntmps29
  go_wp2_with fail
  refine Grow.wp_region_plan 9 ⟨[(7, 117)], fun _ v _ _ W => Made xs' (Mine F w.heap.size 3) v W, fun i v lo hi W W' hb h => Made.below h hb⟩ (by kernel_rfl) (List.pairwise_singleton _ _) (by kernel_rfl) (by rfl) ?_
  dsimp only [List.take, List.drop]
  repeat ((first | (refine Grow.lexP_make (by rfl) (by rfl) (by intro W hj; have hM0 := bB HM.out hj.out; have hX0 := bB HX.out hj.out; obtain ⟨m1, m2⟩ := lay0 hM0; obtain ⟨n1, n2⟩ := lay0 hX0; clear hM0 hX0; go_simp; (have c0' := set_made W A0 c0 m.regs (Kd.C_below (Kd.C_below hA.out.1 HW3.out) hj.out) (by have := HL.out; omega) ka vv (by omega) hka xs' HXS.out (Mine F w.heap.size 3) (by intro b hb; have hz := hj.out.size; rw [HS.out] at hz; rcases hb with hb | hb; (have := HF.out b hb; omega); omega); with_reducible exact Grow.UponB.made c0')) ?_) | (refine Grow.lexP_do _ (by rfl) (by rfl) (by intro W hj; have hM0 := bB HM.out hj.out; have hX0 := bB HX.out hj.out; obtain ⟨m1, m2⟩ := lay0 hM0; obtain ⟨n1, n2⟩ := lay0 hX0; clear hM0 hX0; go_simp; first | exact Grow.UponB.val | (have c0' := HV.out W A0 c0 A1 c1 (Kd.C_below (Kd.C_below hA.out.1 HW3.out) hj.out) (Kd.C_below (Kd.C_below hA.out.2 HW3.out) hj.out); simp only [insVal, memV] at c0'; with_reducible exact Grow.UponB.call c0')) ?_)); refine Grow.lexP_norm (fun K hK => ?_); go_simp; refine hK _ ?_; clear hK K)
  refine Grow.lexP_nil (fun u lo hi W hj hG _ => ?_)
  obtain ⟨A4, c4, hu, hC4, hN4, hP4⟩ := (hG 7 rfl).1
  have HP4 := sA hP4; clear hP4
  clear hG
  have HN4 := sA hN4; have HC4 := sA hC4; clear hC4 hN4
  dsimp only [List.foldl]
  rw [hu]
  have hM0 := bB HM.out hj.out; have hX0 := bB HX.out hj.out; obtain ⟨m1, m2⟩ := lay0 hM0; obtain ⟨n1, n2⟩ := lay0 hX0; clear hM0 hX0
  have HBW := sA (bC HW3.out hj.out)
  have HRW := sA (bB HR.out hj.out); have HSW := sA (show w.heap.size + 3 ≤ W.heap.size from by have := hj.out.size; rwa [HS.out] at this)
  clear hj hu
  go_wp2_with fail
  have HBW1 := sA (bel_set HBW.out (b := w.heap.size) (o := 0) (Nat.le_refl _) (.slice A4 xs'.length c4))
  have HRW1 := sA (blk_far (p := ⟨w.heap.size, 0, none⟩) HRW.out (by show w.heap.size + 1 ≠ w.heap.size; omega) (.slice A4 xs'.length c4))
  have HCW := sA (int_move (w1 := W.setCell ⟨w.heap.size, 0, none⟩ (.slice A4 xs'.length c4)) HC4.out fun ad he hp => (by have hne := HN4.out ad he hp; exact far_set (show ad.block ≠ w.heap.size from fun h => hne (.inr ⟨by omega, by omega⟩)) rfl))
  have HSW1 := sA (show w.heap.size + 3 ≤ (W.setCell ⟨w.heap.size, 0, none⟩ (.slice A4 xs'.length c4)).heap.size from by rw [World.size_setCell]; exact HSW.out)
  have hcall := HI.out _ A4 c4 A1 c1 _ (Kd.C_below HB.out HBW1.out) HCW.out (Kd.C_below hA.out.2 HBW1.out) HN4.out HF1.out (by intro b hb; have hz := HSW1.out; rcases hb with hb | hb; (have := HF.out b hb; omega); omega) HP4.out
  unfold memV at hcall
  clear HI
  go_at_call 29
  refine (hcall).mono ?_
  rintro e w1 ⟨⟨A2, c2, A3, c3, rfl, q0, q1, q2, q3, q4⟩, hb⟩
  have HB1 := sA (bC HBW1.out hb)
  have HQ := sA (And.intro q0 (And.intro q1 (And.intro q2 (And.intro q3 q4))))
  have hR1 := bB HRW1.out hb
  obtain ⟨r1, r2⟩ := lay0 hR1
  clear q0 q1 q2 q3 q4 hb hR1
  go_wp2_with fail
  refine bodyPost_ret (v := memV E mF A2 c2 A3 c3) (by simp [results, Tryz.results29, go_sem, r1, r2, memV]) rfl ⟨⟨A2, c2, A3, c3, rfl, ?_, ?_, fun ad e hp hb => HQ.out.2.2.1 ad e hp (.inl hb), fun ad e hp hb => HQ.out.2.2.2.1 ad e hp (.inl hb), HQ.out.2.2.2.2⟩, ?_⟩
  · refine int_move HQ.out.1 fun ad he hp => ?_
    have hne := HQ.out.2.2.1 ad he hp
    have hn1 : ad.block ≠ w.heap.size + 1 := fun h => hne (.inr ⟨by omega, by omega⟩)
    with_reducible repeat (first | rfl | refine far_set hn1 ?_)
  · refine int_move HQ.out.2.1 fun ad he hp => ?_
    have hne := HQ.out.2.2.2.1 ad he hp
    have hn1 : ad.block ≠ w.heap.size + 1 := fun h => hne (.inr ⟨by omega, by omega⟩)
    with_reducible repeat (first | rfl | refine far_set hn1 ?_)
  · with_reducible repeat (first | exact HB1.out | refine bel_set ?_ (by omega) _)
set_option maxRecDepth 100000 in
set_option maxHeartbeats 4000000 in
theorem spec_exec_save0 (B : Option Addr) (bc : Nat) (b : List Ins) (E : Env) (mF : Mem) (k : Nat) (m : Mem) (hk : k < b.length) (hmb : b.length ≤ 16384) (x : Ins) (hx : b.getD k zIns = x) (h : x.op = 19) (hq : E.q < 0) (ih : Runs B bc b E mF (k + 1) m) : Runs B bc b E mF k m := by
  intro w A0 c0 A1 c1 F hB hA0 hA1 hF0 hF1 hF hcap
  have hA := sA (And.intro hA0 hA1); have HB := sA hB; have HI := sA ih; have HF := sA hF; have HCP := sA hcap; clear hcap
  have HF0 := sA (NotIn.new hA0 hF0 3); have HF1 := sA (NotIn.new hA1 hF1 3)
  obtain ⟨ad, e0, t0, t1⟩ := Kd.flat_cells (d := kIns) rfl hB zIns k hk
  cases e0
  rw [hx] at t0 t1
  have x0 := t0 _ rfl; have x1 := t1 0 _ rfl; have x2 := t1 1 _ rfl; have x3 := t1 2 _ rfl
  obtain ⟨xo, xa, xb, xc⟩ := x
  dsimp only at *
  subst h
  have HW := sA (bA (bA (Below.refl w.heap.size w) (.cells #[.slice A0 m.regs.length c0, .slice A1 m.slots.length c1, .int .i64 E.tags, .int .i64 E.skills, .int .i64 E.q, .int .i64 E.reqs, .int .i64 m.rule] 73)) (.cells #[.slice none 0 0, .slice none 0 0, .int .i64 0, .int .i64 0, .int .i64 0, .int .i64 0, .int .i64 0] 73))
  have HW3 := sA (bA HW.out (.cells #[.int .i64 19, .int .i64 xa, .int .i64 xb, .int .i64 xc] 99))
  have HR := sA (show (((w.alloc (.cells #[.slice A0 m.regs.length c0, .slice A1 m.slots.length c1, .int .i64 E.tags, .int .i64 E.skills, .int .i64 E.q, .int .i64 E.reqs, .int .i64 m.rule] 73)).alloc (.cells #[.slice none 0 0, .slice none 0 0, .int .i64 0, .int .i64 0, .int .i64 0, .int .i64 0, .int .i64 0] 73)).alloc (.cells #[.int .i64 19, .int .i64 xa, .int .i64 xb, .int .i64 xc] 99)).heap[w.heap.size + 1]? = some (.cells #[.slice none 0 0, .slice none 0 0, .int .i64 0, .int .i64 0, .int .i64 0, .int .i64 0, .int .i64 0] 73 (0, 0)) from blk_box (by have := al_new (w.alloc (.cells #[.slice A0 m.regs.length c0, .slice A1 m.slots.length c1, .int .i64 E.tags, .int .i64 E.skills, .int .i64 E.q, .int .i64 E.reqs, .int .i64 m.rule] 73)) (.cells #[.slice none 0 0, .slice none 0 0, .int .i64 0, .int .i64 0, .int .i64 0, .int .i64 0, .int .i64 0] 73); rwa [al_size] at this) (.cells #[.int .i64 19, .int .i64 xa, .int .i64 xb, .int .i64 xc] 99))
  have HM := sA (show (((w.alloc (.cells #[.slice A0 m.regs.length c0, .slice A1 m.slots.length c1, .int .i64 E.tags, .int .i64 E.skills, .int .i64 E.q, .int .i64 E.reqs, .int .i64 m.rule] 73)).alloc (.cells #[.slice none 0 0, .slice none 0 0, .int .i64 0, .int .i64 0, .int .i64 0, .int .i64 0, .int .i64 0] 73)).alloc (.cells #[.int .i64 19, .int .i64 xa, .int .i64 xb, .int .i64 xc] 99)).heap[w.heap.size]? = some (.cells #[.slice A0 m.regs.length c0, .slice A1 m.slots.length c1, .int .i64 E.tags, .int .i64 E.skills, .int .i64 E.q, .int .i64 E.reqs, .int .i64 m.rule] 73 (0, 0)) from blk_box (blk_box (al_new w (.cells #[.slice A0 m.regs.length c0, .slice A1 m.slots.length c1, .int .i64 E.tags, .int .i64 E.skills, .int .i64 E.q, .int .i64 E.reqs, .int .i64 m.rule] 73)) (.cells #[.slice none 0 0, .slice none 0 0, .int .i64 0, .int .i64 0, .int .i64 0, .int .i64 0, .int .i64 0] 73)) (.cells #[.int .i64 19, .int .i64 xa, .int .i64 xb, .int .i64 xc] 99))
  have HX := sA (show (((w.alloc (.cells #[.slice A0 m.regs.length c0, .slice A1 m.slots.length c1, .int .i64 E.tags, .int .i64 E.skills, .int .i64 E.q, .int .i64 E.reqs, .int .i64 m.rule] 73)).alloc (.cells #[.slice none 0 0, .slice none 0 0, .int .i64 0, .int .i64 0, .int .i64 0, .int .i64 0, .int .i64 0] 73)).alloc (.cells #[.int .i64 19, .int .i64 xa, .int .i64 xb, .int .i64 xc] 99)).heap[w.heap.size + 1 + 1]? = some (.cells #[.int .i64 19, .int .i64 xa, .int .i64 xb, .int .i64 xc] 99 (0, 0)) from by have := al_new ((w.alloc (.cells #[.slice A0 m.regs.length c0, .slice A1 m.slots.length c1, .int .i64 E.tags, .int .i64 E.skills, .int .i64 E.q, .int .i64 E.reqs, .int .i64 m.rule] 73)).alloc (.cells #[.slice none 0 0, .slice none 0 0, .int .i64 0, .int .i64 0, .int .i64 0, .int .i64 0, .int .i64 0] 73)) (.cells #[.int .i64 19, .int .i64 xa, .int .i64 xb, .int .i64 xc] 99); rwa [al_size, al_size] at this)
  have HS := sA (show (((w.alloc (.cells #[.slice A0 m.regs.length c0, .slice A1 m.slots.length c1, .int .i64 E.tags, .int .i64 E.skills, .int .i64 E.q, .int .i64 E.reqs, .int .i64 m.rule] 73)).alloc (.cells #[.slice none 0 0, .slice none 0 0, .int .i64 0, .int .i64 0, .int .i64 0, .int .i64 0, .int .i64 0] 73)).alloc (.cells #[.int .i64 19, .int .i64 xa, .int .i64 xb, .int .i64 xc] 99)).heap.size = w.heap.size + 3 by simp only [al_size])
  replace x0 := pC HW.out x0; replace x1 := pC HW.out x1; replace x2 := pC HW.out x2; replace x3 := pC HW.out x3
  clear t0 t1 hB hA0 hA1 hF0 hF1 hF ih hx
  unfold memV
  have p0 : decide (0 ≤ E.q) = false := decide_eq_false (by omega)
  clear hq
  have q1 : IntKind.i64.wrap ((k : Int) + 1) = ((k + 1 : Nat) : Int) := by rw [IntWalk.i64_in _ (by omega)]; omega
  go_enter Tryz.func29, Tryz.ntmps29
  go_wp2_with fail
  have hcall := HI.out _ A0 c0 A1 c1 _ (Kd.C_below HB.out HW3.out) (Kd.C_below hA.out.1 HW3.out) (Kd.C_below hA.out.2 HW3.out) HF0.out HF1.out (by intro b hb; rw [HS.out]; rcases hb with hb | hb; (have := HF.out b hb; omega); omega) HCP.out
  unfold memV at hcall
  clear HI
  go_at_call 29
  refine (hcall).mono ?_
  rintro e w1 ⟨⟨A2, c2, A3, c3, rfl, q0, q1, q2, q3, q4⟩, hb⟩
  have HB1 := sA (bC HW3.out hb)
  have HQ := sA (And.intro q0 (And.intro q1 (And.intro q2 (And.intro q3 q4))))
  have hR1 := bB HR.out hb
  obtain ⟨r1, r2⟩ := lay0 hR1
  clear q0 q1 q2 q3 q4 hb hR1
  go_wp2_with fail
  refine bodyPost_ret (v := memV E mF A2 c2 A3 c3) (by simp [results, Tryz.results29, go_sem, r1, r2, memV]) rfl ⟨⟨A2, c2, A3, c3, rfl, ?_, ?_, fun ad e hp hb => HQ.out.2.2.1 ad e hp (.inl hb), fun ad e hp hb => HQ.out.2.2.2.1 ad e hp (.inl hb), HQ.out.2.2.2.2⟩, ?_⟩
  · refine int_move HQ.out.1 fun ad he hp => ?_
    have hne := HQ.out.2.2.1 ad he hp
    have hn1 : ad.block ≠ w.heap.size + 1 := fun h => hne (.inr ⟨by omega, by omega⟩)
    with_reducible repeat (first | rfl | refine far_set hn1 ?_)
  · refine int_move HQ.out.2.1 fun ad he hp => ?_
    have hne := HQ.out.2.2.2.1 ad he hp
    have hn1 : ad.block ≠ w.heap.size + 1 := fun h => hne (.inr ⟨by omega, by omega⟩)
    with_reducible repeat (first | rfl | refine far_set hn1 ?_)
  · with_reducible repeat (first | exact HB1.out | refine bel_set ?_ (by omega) _)
set_option maxRecDepth 100000 in
set_option maxHeartbeats 4000000 in
theorem spec_exec_save1 (B : Option Addr) (bc : Nat) (b : List Ins) (E : Env) (mF : Mem) (k : Nat) (m : Mem) (hk : k < b.length) (hmb : b.length ≤ 16384) (x : Ins) (hx : b.getD k zIns = x) (h : x.op = 19) (hq : 0 ≤ E.q) (ks : Nat) (hks : x.a * E.reqs + E.q = ks) (hks0 : ks < m.slots.length) (hbq : 0 ≤ x.a * E.reqs) (hsl : m.slots.length ≤ 2000000) (kb : Nat) (hb : x.b = kb) (hb0 : kb < m.regs.length) (ih : Runs B bc b E mF (k + 1) { m with slots := putI m.slots (x.a * E.reqs + E.q) (atI m.regs x.b) }) : Runs B bc b E mF k m := by
  intro w A0 c0 A1 c1 F hB hA0 hA1 hF0 hF1 hF hcap
  have hka : (kb : Int) < (m.regs.length : Int) := by omega
  have hkl : (ks : Int) < (m.slots.length : Int) := by omega
  obtain ⟨ra, rfl, z0⟩ := int_at hA0 hb0
  rw [hks, hb] at ih
  generalize hy0 : atI m.regs kb = y0 at *
  have HY0 := sA hy0; clear hy0
  generalize hxs : putI m.slots (ks : Int) y0 = xs' at *
  have HXS := sA hxs; clear hxs
  have hA := sA (And.intro hA0 hA1); have HB := sA hB; have HI := sA ih; have HF := sA hF; have HCP := sA hcap; clear hcap
  have HF0 := sA (NotIn.new hA0 hF0 3); have HF1 := sA (NotIn.new hA1 hF1 3)
  obtain ⟨ad, e0, t0, t1⟩ := Kd.flat_cells (d := kIns) rfl hB zIns k hk
  cases e0
  rw [hx] at t0 t1
  have x0 := t0 _ rfl; have x1 := t1 0 _ rfl; have x2 := t1 1 _ rfl; have x3 := t1 2 _ rfl
  obtain ⟨xo, xa, xb, xc⟩ := x
  dsimp only at *
  subst h hb
  have HW := sA (bA (bA (Below.refl w.heap.size w) (.cells #[.slice (some ra) m.regs.length c0, .slice A1 m.slots.length c1, .int .i64 E.tags, .int .i64 E.skills, .int .i64 E.q, .int .i64 E.reqs, .int .i64 m.rule] 73)) (.cells #[.slice none 0 0, .slice none 0 0, .int .i64 0, .int .i64 0, .int .i64 0, .int .i64 0, .int .i64 0] 73))
  have HW3 := sA (bA HW.out (.cells #[.int .i64 19, .int .i64 xa, .int .i64 (kb : Int), .int .i64 xc] 99))
  have HR := sA (show (((w.alloc (.cells #[.slice (some ra) m.regs.length c0, .slice A1 m.slots.length c1, .int .i64 E.tags, .int .i64 E.skills, .int .i64 E.q, .int .i64 E.reqs, .int .i64 m.rule] 73)).alloc (.cells #[.slice none 0 0, .slice none 0 0, .int .i64 0, .int .i64 0, .int .i64 0, .int .i64 0, .int .i64 0] 73)).alloc (.cells #[.int .i64 19, .int .i64 xa, .int .i64 (kb : Int), .int .i64 xc] 99)).heap[w.heap.size + 1]? = some (.cells #[.slice none 0 0, .slice none 0 0, .int .i64 0, .int .i64 0, .int .i64 0, .int .i64 0, .int .i64 0] 73 (0, 0)) from blk_box (by have := al_new (w.alloc (.cells #[.slice (some ra) m.regs.length c0, .slice A1 m.slots.length c1, .int .i64 E.tags, .int .i64 E.skills, .int .i64 E.q, .int .i64 E.reqs, .int .i64 m.rule] 73)) (.cells #[.slice none 0 0, .slice none 0 0, .int .i64 0, .int .i64 0, .int .i64 0, .int .i64 0, .int .i64 0] 73); rwa [al_size] at this) (.cells #[.int .i64 19, .int .i64 xa, .int .i64 (kb : Int), .int .i64 xc] 99))
  have HM := sA (show (((w.alloc (.cells #[.slice (some ra) m.regs.length c0, .slice A1 m.slots.length c1, .int .i64 E.tags, .int .i64 E.skills, .int .i64 E.q, .int .i64 E.reqs, .int .i64 m.rule] 73)).alloc (.cells #[.slice none 0 0, .slice none 0 0, .int .i64 0, .int .i64 0, .int .i64 0, .int .i64 0, .int .i64 0] 73)).alloc (.cells #[.int .i64 19, .int .i64 xa, .int .i64 (kb : Int), .int .i64 xc] 99)).heap[w.heap.size]? = some (.cells #[.slice (some ra) m.regs.length c0, .slice A1 m.slots.length c1, .int .i64 E.tags, .int .i64 E.skills, .int .i64 E.q, .int .i64 E.reqs, .int .i64 m.rule] 73 (0, 0)) from blk_box (blk_box (al_new w (.cells #[.slice (some ra) m.regs.length c0, .slice A1 m.slots.length c1, .int .i64 E.tags, .int .i64 E.skills, .int .i64 E.q, .int .i64 E.reqs, .int .i64 m.rule] 73)) (.cells #[.slice none 0 0, .slice none 0 0, .int .i64 0, .int .i64 0, .int .i64 0, .int .i64 0, .int .i64 0] 73)) (.cells #[.int .i64 19, .int .i64 xa, .int .i64 (kb : Int), .int .i64 xc] 99))
  have HX := sA (show (((w.alloc (.cells #[.slice (some ra) m.regs.length c0, .slice A1 m.slots.length c1, .int .i64 E.tags, .int .i64 E.skills, .int .i64 E.q, .int .i64 E.reqs, .int .i64 m.rule] 73)).alloc (.cells #[.slice none 0 0, .slice none 0 0, .int .i64 0, .int .i64 0, .int .i64 0, .int .i64 0, .int .i64 0] 73)).alloc (.cells #[.int .i64 19, .int .i64 xa, .int .i64 (kb : Int), .int .i64 xc] 99)).heap[w.heap.size + 1 + 1]? = some (.cells #[.int .i64 19, .int .i64 xa, .int .i64 (kb : Int), .int .i64 xc] 99 (0, 0)) from by have := al_new ((w.alloc (.cells #[.slice (some ra) m.regs.length c0, .slice A1 m.slots.length c1, .int .i64 E.tags, .int .i64 E.skills, .int .i64 E.q, .int .i64 E.reqs, .int .i64 m.rule] 73)).alloc (.cells #[.slice none 0 0, .slice none 0 0, .int .i64 0, .int .i64 0, .int .i64 0, .int .i64 0, .int .i64 0] 73)) (.cells #[.int .i64 19, .int .i64 xa, .int .i64 (kb : Int), .int .i64 xc] 99); rwa [al_size, al_size] at this)
  have HS := sA (show (((w.alloc (.cells #[.slice (some ra) m.regs.length c0, .slice A1 m.slots.length c1, .int .i64 E.tags, .int .i64 E.skills, .int .i64 E.q, .int .i64 E.reqs, .int .i64 m.rule] 73)).alloc (.cells #[.slice none 0 0, .slice none 0 0, .int .i64 0, .int .i64 0, .int .i64 0, .int .i64 0, .int .i64 0] 73)).alloc (.cells #[.int .i64 19, .int .i64 xa, .int .i64 (kb : Int), .int .i64 xc] 99)).heap.size = w.heap.size + 3 by simp only [al_size])
  replace x0 := pC HW.out x0; replace x1 := pC HW.out x1; replace x2 := pC HW.out x2; replace x3 := pC HW.out x3
  replace z0 := pC HW3.out z0
  clear t0 t1 hB hA0 hA1 hF0 hF1 hF ih hx
  unfold memV
  have p0 : decide (0 ≤ E.q) = true := decide_eq_true hq
  have q0 : IntKind.i64.wrap (xa * E.reqs) = xa * E.reqs := IntWalk.i64_in _ (by omega)
  have q2 : IntKind.i64.wrap (xa * E.reqs + E.q) = (ks : Int) := by rw [hks]; exact IntWalk.i64_in _ (by omega)
  have q1 : IntKind.i64.wrap ((k : Int) + 1) = ((k + 1 : Nat) : Int) := by rw [IntWalk.i64_in _ (by omega)]; omega
  have HK := sA (And.intro hk hmb); have HL := sA hsl; clear hsl hq hks hbq
  go_enter Tryz.func29, Tryz.ntmps29
  go_wp2_with fail
  refine Grow.wp_region_plan 18 ⟨[(16, 103)], fun _ v _ _ W => Made xs' (Mine F w.heap.size 3) v W, fun i v lo hi W W' hb h => Made.below h hb⟩ (by kernel_rfl) (List.pairwise_singleton _ _) (by kernel_rfl) (by rfl) ?_
  dsimp only [List.take, List.drop]
  repeat ((first | (refine Grow.lexP_make (by rfl) (by rfl) (by intro W hj; have hM0 := bB HM.out hj.out; have hX0 := bB HX.out hj.out; obtain ⟨m1, m2⟩ := lay0 hM0; obtain ⟨n1, n2⟩ := lay0 hX0; clear hM0 hX0; have tz := pC hj.out z0; go_simp; (have c0' := set_made W A1 c1 m.slots (Kd.C_below (Kd.C_below hA.out.2 HW3.out) hj.out) HL.out ks y0 (by omega) hkl xs' HXS.out (Mine F w.heap.size 3) (by intro b hb; have hz := hj.out.size; rw [HS.out] at hz; rcases hb with hb | hb; (have := HF.out b hb; omega); omega); with_reducible exact Grow.UponB.made c0')) ?_) | (refine Grow.lexP_do _ (by rfl) (by rfl) (by intro W hj; have hM0 := bB HM.out hj.out; have hX0 := bB HX.out hj.out; obtain ⟨m1, m2⟩ := lay0 hM0; obtain ⟨n1, n2⟩ := lay0 hX0; clear hM0 hX0; have tz := pC hj.out z0; go_simp; first | exact Grow.UponB.val | fail) ?_)); refine Grow.lexP_norm (fun K hK => ?_); go_simp; refine hK _ ?_; clear hK K)
  refine Grow.lexP_nil (fun u lo hi W hj hG _ => ?_)
  obtain ⟨A4, c4, hu, hC4, hN4, hP4⟩ := (hG 16 rfl).1
  clear hP4
  clear hG
  have HN4 := sA hN4; have HC4 := sA hC4; clear hC4 hN4
  dsimp only [List.foldl]
  rw [hu]
  have hM0 := bB HM.out hj.out; have hX0 := bB HX.out hj.out; obtain ⟨m1, m2⟩ := lay0 hM0; obtain ⟨n1, n2⟩ := lay0 hX0; clear hM0 hX0
  have HBW := sA (bC HW3.out hj.out)
  have HRW := sA (bB HR.out hj.out); have HSW := sA (show w.heap.size + 3 ≤ W.heap.size from by have := hj.out.size; rwa [HS.out] at this)
  clear hj hu z0
  go_wp2_with fail
  have HBW1 := sA (bel_set HBW.out (b := w.heap.size) (o := 1) (Nat.le_refl _) (.slice A4 xs'.length c4))
  have HRW1 := sA (blk_far (p := ⟨w.heap.size, 1, none⟩) HRW.out (by show w.heap.size + 1 ≠ w.heap.size; omega) (.slice A4 xs'.length c4))
  have HCW := sA (int_move (w1 := W.setCell ⟨w.heap.size, 1, none⟩ (.slice A4 xs'.length c4)) HC4.out fun ad he hp => (by have hne := HN4.out ad he hp; exact far_set (show ad.block ≠ w.heap.size from fun h => hne (.inr ⟨by omega, by omega⟩)) rfl))
  have HSW1 := sA (show w.heap.size + 3 ≤ (W.setCell ⟨w.heap.size, 1, none⟩ (.slice A4 xs'.length c4)).heap.size from by rw [World.size_setCell]; exact HSW.out)
  have hcall := HI.out _ (some ra) c0 A4 c4 _ (Kd.C_below HB.out HBW1.out) (Kd.C_below hA.out.1 HBW1.out) HCW.out HF0.out HN4.out (by intro b hb; have hz := HSW1.out; rcases hb with hb | hb; (have := HF.out b hb; omega); omega) HCP.out
  unfold memV at hcall
  clear HI
  go_at_call 29
  refine (hcall).mono ?_
  rintro e w1 ⟨⟨A2, c2, A3, c3, rfl, q0, q1, q2, q3, q4⟩, hb⟩
  have HB1 := sA (bC HBW1.out hb)
  have HQ := sA (And.intro q0 (And.intro q1 (And.intro q2 (And.intro q3 q4))))
  have hR1 := bB HRW1.out hb
  obtain ⟨r1, r2⟩ := lay0 hR1
  clear q0 q1 q2 q3 q4 hb hR1
  go_wp2_with fail
  refine bodyPost_ret (v := memV E mF A2 c2 A3 c3) (by simp [results, Tryz.results29, go_sem, r1, r2, memV]) rfl ⟨⟨A2, c2, A3, c3, rfl, ?_, ?_, fun ad e hp hb => HQ.out.2.2.1 ad e hp (.inl hb), fun ad e hp hb => HQ.out.2.2.2.1 ad e hp (.inl hb), HQ.out.2.2.2.2⟩, ?_⟩
  · refine int_move HQ.out.1 fun ad he hp => ?_
    have hne := HQ.out.2.2.1 ad he hp
    have hn1 : ad.block ≠ w.heap.size + 1 := fun h => hne (.inr ⟨by omega, by omega⟩)
    with_reducible repeat (first | rfl | refine far_set hn1 ?_)
  · refine int_move HQ.out.2.1 fun ad he hp => ?_
    have hne := HQ.out.2.2.2.1 ad he hp
    have hn1 : ad.block ≠ w.heap.size + 1 := fun h => hne (.inr ⟨by omega, by omega⟩)
    with_reducible repeat (first | rfl | refine far_set hn1 ?_)
  · with_reducible repeat (first | exact HB1.out | refine bel_set ?_ (by omega) _)
set_option maxRecDepth 100000 in
set_option maxHeartbeats 4000000 in
theorem spec_exec_end (B : Option Addr) (bc : Nat) (b : List Ins) (E : Env) (k : Nat) (m : Mem) (hk : b.length ≤ k) : Runs B bc b E m k m := by
  intro w A0 c0 A1 c1 F hB hA0 hA1 hF0 hF1 hF hcap
  have hA := sA (And.intro hA0 hA1); have HF0 := sA hF0; have HF1 := sA hF1; have HCP := sA hcap; clear hA0 hA1 hF0 hF1 hF hB hcap
  unfold memV
  go_enter Tryz.func29, Tryz.ntmps29
  go_wp2_with fail
  refine bodyPost_ret (v := memV E m A0 c0 A1 c1) (by simp [results, Tryz.results29, go_sem, memV]) rfl ⟨⟨A0, c0, A1, c1, rfl, ?_, ?_, HF0.out, HF1.out, HCP.out⟩, ?_⟩
  · exact Kd.C_below hA.out.1 (bA (bA (Below.refl _ _) _) _)
  · exact Kd.C_below hA.out.2 (bA (bA (Below.refl _ _) _) _)
  · exact bA (bA (Below.refl _ _) _) _
theorem spec_exec (B : Option Addr) (bc : Nat) (b : List Ins) (E : Env) {regs slots : Int} (hb : blockOk regs slots b = true) (hr : regs ≤ 1000) (hs0 : 0 ≤ slots) (hs : slots ≤ 100) : ∀ (f k : Nat) (m : Mem), b.length - k ≤ f → Mok E regs slots m → Runs B bc b E (exec E b f k m) k m
  | 0, k, m, hf, hm => spec_exec_end B bc b E k m (by omega)
  | f + 1, k, m, hf, hm => by
    rcases Nat.lt_or_ge k b.length with hk | hk
    rotate_left
    · rw [exec_end hk]; exact spec_exec_end B bc b E k m hk
    have hmb := blockOk_len hb
    rw [exec_step hk]
    have hok := blockOk_at hb hk
    generalize hx : b.getD k zIns = x at *
    have hnx : k < (stepI E k m x).1 := stepI_next hok hk hmb
    have IH := spec_exec B bc b E hb hr hs0 hs f (stepI E k m x).1 (stepI E k m x).2 (by omega) (stepI_ok hm hok)
    have hl := hm.rl
    by_cases h17 : x.op = 17
    · have hst : stepI E k m x = (x.b.toNat, m) := by unfold stepI; rw [if_pos h17]
      rw [hst] at IH hnx ⊢
      have hbn : 0 ≤ x.b := by rcases Int.lt_or_le x.b 0 with h | h; (rw [Int.toNat_eq_zero.2 (by omega)] at hnx; omega); exact h
      exact spec_exec_jump B bc b E _ k m hk hmb x hx h17 x.b.toNat (Int.toNat_of_nonneg hbn).symm IH
    have hok' := hok
    unfold insOk at hok'
    by_cases h15 : x.op = 15
    · rw [if_neg (by omega)] at hok'
      split at hok'
      · cases hok'
      simp only [h15] at hok'
      simp [inB_iff] at hok'
      obtain ⟨ka, ha⟩ := Int.eq_ofNat_of_zero_le (show 0 ≤ x.a by omega)
      by_cases hz : atI m.regs x.a = 0
      · have hst : stepI E k m x = (x.b.toNat, m) := by unfold stepI; rw [if_neg h17, if_pos h15, if_pos hz]
        rw [hst] at IH ⊢
        exact spec_exec_jz0 B bc b E _ k m hk hmb x hx h15 ka ha (by omega) (by rw [← ha]; exact hz) x.b.toNat (Int.toNat_of_nonneg (by omega)).symm IH
      · have hst : stepI E k m x = (k + 1, m) := by unfold stepI; rw [if_neg h17, if_pos h15, if_neg hz]
        rw [hst] at IH ⊢
        exact spec_exec_jz1 B bc b E _ k m hk hmb x hx h15 ka ha (by omega) (by rw [← ha]; exact hz) IH
    by_cases h16 : x.op = 16
    · rw [if_neg (by omega)] at hok'
      split at hok'
      · cases hok'
      simp only [h16] at hok'
      simp [inB_iff] at hok'
      obtain ⟨ka, ha⟩ := Int.eq_ofNat_of_zero_le (show 0 ≤ x.a by omega)
      by_cases hz : atI m.regs x.a = 0
      · have hst : stepI E k m x = (k + 1, m) := by unfold stepI; rw [if_neg h17, if_neg h15, if_pos h16, if_pos hz]
        rw [hst] at IH ⊢
        exact spec_exec_jnz0 B bc b E _ k m hk hmb x hx h16 ka ha (by omega) (by rw [← ha]; exact hz) IH
      · have hst : stepI E k m x = (x.b.toNat, m) := by unfold stepI; rw [if_neg h17, if_neg h15, if_pos h16, if_neg hz]
        rw [hst] at IH ⊢
        exact spec_exec_jnz1 B bc b E _ k m hk hmb x hx h16 ka ha (by omega) (by rw [← ha]; exact hz) x.b.toNat (Int.toNat_of_nonneg (by omega)).symm IH
    by_cases h18 : x.op = 18
    · rw [if_neg (by omega)] at hok'
      split at hok'
      · cases hok'
      simp only [h18] at hok'
      simp [inB_iff] at hok'
      obtain ⟨ka, ha⟩ := Int.eq_ofNat_of_zero_le (show 0 ≤ x.a by omega)
      by_cases hz : atI m.regs x.a = 0
      · have hst : stepI E k m x = (16384, { m with rule := x.b }) := by unfold stepI; rw [if_neg h17, if_neg h15, if_neg h16, if_pos h18, if_pos hz]
        rw [hst]
        exact spec_exec_check0 B bc b E _ k m hk hmb x hx h18 ka ha (by omega) (by rw [← ha]; exact hz) (exec_end hmb)
      · have hst : stepI E k m x = (k + 1, m) := by unfold stepI; rw [if_neg h17, if_neg h15, if_neg h16, if_pos h18, if_neg hz]
        rw [hst] at IH ⊢
        exact spec_exec_check1 B bc b E _ k m hk hmb x hx h18 ka ha (by omega) (by rw [← ha]; exact hz) IH
    have hsl : (m.slots.length : Int) ≤ 1638400 := by rw [hm.sl]; exact (mul_bd' (A := 100) (B := 16384) hs0 hs hm.r0 hm.r1).2
    by_cases h19 : x.op = 19
    · rw [if_neg (by omega)] at hok'
      split at hok'
      · cases hok'
      simp only [h19] at hok'
      simp [inB_iff] at hok'
      rcases Int.lt_or_le E.q 0 with hq | hq
      · have hst : stepI E k m x = (k + 1, m) := by unfold stepI; rw [if_neg h17, if_neg h15, if_neg h16, if_neg h18, if_pos h19, if_pos hq]
        rw [hst] at IH ⊢
        exact spec_exec_save0 B bc b E _ k m hk hmb x hx h19 hq IH
      · have hst : stepI E k m x = (k + 1, { m with slots := putI m.slots (x.a * E.reqs + E.q) (atI m.regs x.b) }) := by unfold stepI; rw [if_neg h17, if_neg h15, if_neg h16, if_neg h18, if_pos h19, if_neg (by omega)]
        rw [hst] at IH ⊢
        obtain ⟨s0, s1, s2⟩ := slot_in (show 0 ≤ x.a by omega) (show x.a ≤ slots - 1 by omega) hs hq (hm.q1 hq) hm.r1
        have := hm.sl
        obtain ⟨ks, hks⟩ := Int.eq_ofNat_of_zero_le (show 0 ≤ x.a * E.reqs + E.q by omega)
        obtain ⟨kb, hb⟩ := Int.eq_ofNat_of_zero_le (show 0 ≤ x.b by omega)
        exact spec_exec_save1 B bc b E _ k m hk hmb x hx h19 hq ks hks (by omega) s0 (by omega) kb hb (by omega) IH
    · have hst : stepI E k m x = (k + 1, { m with regs := putI m.regs x.a (insV E m x) }) := by unfold stepI; rw [if_neg h17, if_neg h15, if_neg h16, if_neg h18, if_neg h19]
      rw [hst] at IH ⊢
      have hA : 13 ≤ x.a ∧ x.a ≤ regs - 1 := put_reg hok h15 h16 h17 h18 h19
      obtain ⟨ka, ha⟩ := Int.eq_ofNat_of_zero_le (show 0 ≤ x.a by omega)
      exact spec_exec_put B bc b E _ k m hk hmb x hx ka ha (by omega) h15 h16 h17 h18 h19 (by omega) (fun W A0 c0 A1 c1 h0 h1 => spec_insVal W x E m A0 c0 A1 c1 h0 h1 hm hs hsl hok h15 h16 h17 h18 h19) IH
end
end Go.Proofs.YtlhpbpkefkabgaaGreat.L1
