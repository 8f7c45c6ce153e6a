/- The number of a numeral, as the reference reads it (a recursion). What a row of tags is, as the reference tells it. A region whose order is open, by an invariant over what is done already: each operation keeps it whatever else is done. A region whose order is open, by what each slot holds once its operation is done: one function of what is done. Blocks written whole; results that lie in a block. The words of a line; the place that starts at a word, as the reference tells it. -/
import Derived.Test.YtogjkkbhmanbmaaGreatDoorQP5
import Derived.Test.YtogjkkbhmanbmaaGreatDoorQP2
import Derived.Test.YtogjkkbhmanbmaaGreatDoorQP4
import Derived.Test.YtogjkkbhmanbmaaGreatDoorQP3
namespace Go.Proofs.YtogjkkbhmanbmaaGreatDoor.L1
open Go.RowKit Go.Proofs.YtogjkkbhmanbmaaGreatDoorW.PrintWords Go.Proofs.YtogjkkbhmanbmaaGreatDoor.B
set_option linter.unusedVariables false
set_option linter.unusedSimpArgs false
attribute [local go_sem] mk_cell mk_frozen
theorem list_snoc {n : Nat} : ∀ {f : List Int}, f.length = n + 1 → ∃ (g : List Int) (x : Int), f = g ++ [x] ∧ g.length = n := fun {f} h => by
  have hne : f ≠ [] := fun he => by subst he; simp at h
  exact ⟨f.dropLast, f.getLast hne, (List.dropLast_concat_getLast hne).symm, by rw [List.length_dropLast, h]; rfl⟩
theorem pow_nine {n : Nat} (h : n ≤ 9) : (10 : Int) ^ n ≤ 1000000000 := by
  have h2 := Nat.pow_le_pow_right (n := 10) (by decide) h
  have h3 : (10 : Nat) ^ 9 = 1000000000 := by decide
  have h4 : ((10 ^ n : Nat) : Int) = (10 : Int) ^ n := by simp
  omega
set_option maxRecDepth 100000 in
set_option maxHeartbeats 4000000 in
theorem spec_digs : ∀ (n : Nat) (w : World) (A : Option Addr) (c : Nat) (f : List Int), f.length = n → n ≤ 9 → n ≤ c → kByte.C w A n f → (∀ x, x ∈ f → isDig x) → Calls Tryz.prog 24 #[.slice A n c] w fun e w' => e = .returned (.int .i64 (digVal f)) ∧ Below w.heap.size w w'
  | 0, w, A, c, f, hf, _, _, _, _ => by
    obtain rfl : f = [] := List.eq_nil_of_length_eq_zero hf
    clear hf
    go_enter Tryz.func24, Tryz.ntmps24
    go_wp2
    go_ret
    exact ⟨rfl, Below.refl _ _⟩
  | n + 1, w, A, c, f, hf, h9, hc, hr, hd => by
    obtain ⟨g, x, rfl, hg⟩ := list_snoc hf
    have HI := Aside0.mk (fun (W : World) (ad : Option Addr) (hr : kByte.C W ad n g) => spec_digs n W ad c g hg (by omega) (by omega) hr (fun y hy => hd y (by simp [hy])))
    have HD := Aside0.mk (hd x (by simp))
    have HB := Aside0.mk (digVal_bd g fun y hy => hd y (by simp [hy]))
    have HP := Aside0.mk (pow_nine (n := n) (by omega))
    have HV := Aside0.mk (digVal_snoc g x)
    have hr' := hr
    rw [← hf] at hr'
    have HT := Kd.C_take (m := n) hr' (by rw [hf]; omega)
    rw [List.take_left' hg, hg] at HT
    have HT := Aside0.mk HT
    obtain ⟨ad, e0, t0, _⟩ := Kd.flat_cells (d := kByte) rfl hr 0 0 (by omega)
    have y0 := t0 _ rfl
    clear t0
    obtain ⟨ad', e1, t1, _⟩ := Kd.flat_cells (d := kByte) rfl hr 0 n (by omega)
    cases e0
    cases e1
    have y1 := t1 _ rfl
    clear t1
    simp only [Nat.zero_mul, Nat.mul_one] at y0 y1
    replace y0 : w.cell? ad = some (.int .u8 ((g ++ [x]).getD 0 0)) := y0
    rw [show (g ++ [x]).getD n 0 = x by rw [List.getD_eq_getElem?_getD, List.getElem?_append_right (by omega), hg]; simp] at y1
    have hh := hd ((g ++ [x]).getD 0 0) (by cases g <;> simp)
    have p0 : ((g ++ [x]).getD 0 0 == 45) = false := beq_false_of_ne (by have := hh.1; omega)
    have p1 : decide ((g ++ [x]).getD 0 0 = 45) = false := decide_eq_false (by have := hh.1; omega)
    clear hh hr' hr hd
    generalize (g ++ [x]).getD 0 0 = y at y0 p0 p1
    have p2 : (((n : Int) + 1) == 0) = false := beq_false_of_ne (by omega)
    have p3 : decide ((n : Int) + 1 = 0) = false := decide_eq_false (by omega)
    have hlt : n ≤ c := by omega
    have hlu : ((n : Nat) : Int) < (n : Int) + 1 := by omega
    clear hf
    have q9 : ((n : Nat) : Int) + 1 - 1 = n := by omega
    have q0 : IntKind.i64.wrap ((n : Nat) : Int) = n := IntWalk.i64_in _ (by omega)
    have hbd : 0 ≤ digVal g ∧ digVal g ≤ 1000000000 := ⟨HB.out.1, by have h1 := HB.out.2; have h2 := HP.out; rw [hg] at h1; omega⟩
    have hx := HD.out
    unfold isDig at hx
    rw [HV.out]
    generalize digVal g = D at HI hbd ⊢
    have q1 : IntKind.i64.wrap (10 * D) = 10 * D := IntWalk.i64_in _ (by omega)
    have q2 : IntKind.i64.wrap (10 * D + x) = 10 * D + x := IntWalk.i64_in _ (by omega)
    have q3 : IntKind.i64.wrap (10 * D + x - 48) = 10 * D + x - 48 := IntWalk.i64_in _ (by omega)
    have q4 : IntKind.i64.wrap x = x := IntWalk.i64_in _ (by omega)
    have HQ := Aside0.mk (show 10 * D + (x - 48) = 10 * D + x - 48 by omega)
    clear hx hbd HB HP HV HD
    have HR := Aside0.mk hg; clear hg
    go_enter Tryz.func24, Tryz.ntmps24
    go_wp2_with fail
    refine Grow.wp_region_growB (by kernel_rfl) (by kernel_rfl) ?_
    repeat ((first | (refine Grow.lex_skip (by rfl) ?_) | (refine Grow.lex_do _ (by rfl) (by intro W hj; have t0 := pw_cell_below hj.out y0; have t1 := pw_cell_below hj.out y1; go_simp; first | exact Grow.Upon.val hj | with_reducible exact Grow.Upon.callB hj (HI.out W (some ad) (Kd.C_below HT.out hj.out))) ?_)); refine Grow.lex_norm (fun K hK => ?_); go_simp; refine hK _ ?_; clear hK K)
    refine Grow.lex_nil (fun W hj => ?_)
    have HB1 := Aside0.mk hj.out; clear hj
    go_wp2
    go_ret
    exact ⟨by rw [HQ.out]; rfl, HB1.out⟩
theorem isNum_tail {f : List Int} (h : isNum f = true) : (1 ≤ (numTail f).length ∧ (numTail f).length ≤ 9) ∧ ∀ x, x ∈ numTail f → isDig x := by
  unfold isNum at h
  rw [Bool.or_eq_true, decide_eq_true_eq] at h
  rcases h with rfl | h
  · refine ⟨by decide, fun x hx => ?_⟩
    have : x = 48 := by simpa [numTail] using hx
    subst this; unfold isDig; omega
  · have := (digsOk_iff _).1 h
    exact ⟨this.1, this.2.2⟩
set_option maxRecDepth 100000 in
set_option maxHeartbeats 4000000 in
theorem spec_number (w : World) (A : Option Addr) (c : Nat) (f : List Int) (hc : f.length ≤ c) (hr : kByte.C w A f.length f) (hn : isNum f = true) : Calls Tryz.prog 24 #[.slice A f.length c] w fun e w' => e = .returned (.int .i64 (numVal f)) ∧ Below w.heap.size w w' := by
  obtain ⟨⟨h1, h2⟩, h3⟩ := isNum_tail hn
  have hb := numVal_bd hn
  by_cases h45 : f.getD 0 0 = 45
  · unfold numTail at h1 h2 h3
    unfold numVal at hb ⊢
    rw [if_pos h45] at h1 h2 h3 hb ⊢
    obtain ⟨g, rfl⟩ : ∃ g, f = 45 :: g := by
      cases f with
      | nil => simp at h45
      | cons x f => exact ⟨f, by rw [show x = 45 from h45]⟩
    have e1 : (45 :: g).drop 1 = g := rfl
    rw [e1] at h1 h2 h3 hb ⊢
    have hc' : g.length + 1 ≤ c := hc
    replace hr : kByte.C w A (g.length + 1) (45 :: g) := hr
    obtain ⟨ad, e0, t0, _⟩ := Kd.flat_cells (d := kByte) rfl hr 0 0 (by omega)
    cases e0
    have y0 := t0 _ rfl
    simp only [Nat.zero_mul] at y0
    replace y0 : w.cell? ad = some (.int .u8 45) := y0
    clear t0
    have hD := Kd.C_drop (c := c) (m := 1) hr (by simp) (by simpa using hc)
    rw [if_neg (by omega)] at hD
    have HI := Aside0.mk (spec_digs g.length w (some ⟨ad.block, ad.off + 1, none⟩) (c - 1) g rfl h2 (by omega) hD h3)
    clear hD hr h3 hn h45 hc e1
    have hc2 : ¬ c = 1 := by omega
    have p0 : ((g.length : Int) + 1 == 0) = false := beq_false_of_ne (by omega)
    have p1 : decide ((g.length : Int) + 1 = 0) = false := decide_eq_false (by omega)
    have hl1 : 1 ≤ g.length + 1 := by omega
    rw [show (45 :: g).length = g.length + 1 from rfl]
    generalize digVal g = D at HI hb ⊢
    generalize g.length = n at HI p0 p1 hc' hl1 ⊢
    have q1 : IntKind.i64.wrap (-D) = -D := IntWalk.i64_in _ (by omega)
    clear hb h1 h2
    go_enter Tryz.func24, Tryz.ntmps24
    go_wp2_with (go_at_call 24; refine Calls.mono HI.out ?_; rintro e w' ⟨rfl, hb⟩; have HB1 := Aside0.mk hb; clear hb)
    go_ret
    exact ⟨rfl, HB1.out⟩
  · unfold numTail at h1 h2 h3
    unfold numVal
    rw [if_neg h45] at h1 h2 h3 ⊢
    exact spec_digs f.length w A c f rfl h2 hc hr h3
end Go.Proofs.YtogjkkbhmanbmaaGreatDoor.L1
namespace Go.Proofs.YtogjkkbhmanbmaaGreatDoor.L1
open Go.RowKit Go.Proofs.YtogjkkbhmanbmaaGreatDoorW.PrintWords Go.Proofs.YtogjkkbhmanbmaaGreatDoor.B
set_option linter.unusedVariables false
set_option linter.unusedSimpArgs false
attribute [local go_sem] mk_cell mk_frozen
def tagStep (f : List Int) (k : Nat) : Bool := inB (f.getD k 0) 97 112 && (decide (k = 0) || decide (f.getD (k - 1) 0 < f.getD k 0))
def tagOk (f : List Int) : Bool := decide (f = [45]) || (decide (0 < f.length) && allI f.length (tagStep f))
theorem tagOk_bad {f : List Int} {k : Nat} (hne : f ≠ [45]) (hk : k < f.length) (h : tagStep f k = false) : tagOk f = false := by unfold tagOk; rw [allI_false hk h, decide_eq_false hne]; simp
theorem tagOk_all {f : List Int} (hne : f ≠ [45]) (h : allI f.length (tagStep f) = true) : tagOk f = decide (0 < f.length) := by unfold tagOk; rw [h, decide_eq_false hne]; simp
section
variable (w : World)
set_option maxRecDepth 100000 in
set_option maxHeartbeats 4000000 in
theorem spec_isTags (A : Option Addr) (c : Nat) (f : List Int) (hr : kByte.C w A f.length f) (hl : f.length ≤ 1048576) : Calls Tryz.prog 22 #[.slice A f.length c] w fun e w' => e = .returned (.bool (tagOk f)) ∧ Below w.heap.size w w' := by
  by_cases h45 : f = [45]
  · subst h45
    obtain ⟨ad, e0, t0, _⟩ := Kd.flat_cells (d := kByte) rfl hr 0 0 (by decide)
    have y0 := t0 _ rfl
    cases e0
    clear t0 hl hr
    replace y0 : w.cell? ad = some (.int .u8 45) := y0
    go_enter Tryz.func22, Tryz.ntmps22
    go_wp2
    go_ret
    exact ⟨rfl, Below.refl _ _⟩
  have HR := Aside0.mk hr; have HNE := Aside0.mk h45
  have HF1 := Aside0.mk (show ∃ A' : Option Addr, (f.length = 1 → ∃ ad, A = some ad ∧ w.cell? ad = some (.int .u8 (f.getD 0 0)) ∧ f.getD 0 0 ≠ 45) from ⟨A, fun h1 => by
    obtain ⟨ad, e0, t0, _⟩ := Kd.flat_cells (d := kByte) rfl hr 0 0 (by omega)
    have y0 := t0 _ rfl
    simp only [Nat.zero_mul] at y0
    refine ⟨ad, e0, y0, fun h => h45 ?_⟩
    match f, h1, h with
    | [x], _, h => exact congrArg (fun z => [z]) h⟩)
  clear hr h45
  generalize hN : f.length = N at hl HR HF1 ⊢
  have HL := Aside0.mk hN
  clear hN
  by_cases h1 : N = 1
  · subst h1
    obtain ⟨A', hA'⟩ := HF1.out
    obtain ⟨ad0, rfl, x0, hx⟩ := hA' rfl
    clear hA' HF1
    generalize f.getD 0 0 = x at x0 hx
    have p0 : (x == 45) = false := beq_false_of_ne hx
    have p1 : decide (x = 45) = false := decide_eq_false hx
    clear hx
    go_enter Tryz.func22, Tryz.ntmps22
    go_wp2_with fail
    clear x0 p0 p1
    go_loopg [3] (1 + 1) (fun q v wr => ∃ k : Nat, q = 1 + 1 - k ∧ k ≤ 1 ∧ v = .int .i64 k ∧ Aside0 (allI k (tagStep f) = true) ∧ Aside0 (Below w.heap.size w wr))
    case atStart => exact ⟨0, by omega, by omega, rfl, ⟨rfl⟩, ⟨Below.refl _ _⟩⟩
    case round =>
      obtain ⟨k, rfl, hk, rfl, HG, HB⟩ := hrel
      by_cases hlt : k < 1
      · obtain ⟨ad, e0, t0, _⟩ := Kd.flat_cells (d := kByte) rfl (Kd.C_below HR.out HB.out) 0 k hlt
        have y0 := t0 _ rfl
        simp only [Nat.mul_one] at y0
        clear t0
        cases e0
        have HS := Aside0.mk (show allI (k + 1) (tagStep f) = (allI k (tagStep f) && tagStep f k) from allI_succ k (tagStep f))
        have HK := Aside0.mk (show k < f.length by have := HL.out; omega)
        have hlu : ((k : Nat) : Int) < (1 : Int) := by omega
        rcases Int.lt_or_le (f.getD k 0) 97 with ha | ha
        · have HV := Aside0.mk (tagOk_bad HNE.out HK.out (show tagStep f k = false by unfold tagStep inB; rw [decide_eq_false (show ¬ 97 ≤ f.getD k 0 by omega)]; simp))
          generalize f.getD k 0 = y at y0 ha
          have a0 : decide (y < 97) = true := decide_eq_true ha
          clear ha
          go_wp2_with fail
          refine Grow.wp_region_growB (by kernel_rfl) (by kernel_rfl) ?_
          repeat ((first | (refine Grow.lex_skip (by rfl) ?_) | (refine Grow.lex_do _ (by rfl) (by intro W hj; have s0 := pw_cell_below hj.out y0; go_simp; first | exact Grow.Upon.val hj) ?_)); refine Grow.lex_norm (fun K hK => ?_); go_simp; refine hK _ ?_; clear hK K)
          refine Grow.lex_nil (fun W hj => ?_)
          have HB1 := Aside0.mk (bel_call HB.out hj.out); clear hj
          go_wp2
          go_ret
          exact ⟨by rw [HV.out]; rfl, HB1.out⟩
        · rcases Int.lt_or_le 112 (f.getD k 0) with hb | hb
          · have HV := Aside0.mk (tagOk_bad HNE.out HK.out (show tagStep f k = false by unfold tagStep inB; rw [decide_eq_false (show ¬ f.getD k 0 ≤ 112 by omega)]; simp))
            generalize f.getD k 0 = y at y0 ha hb
            have a0 : decide (y < 97) = false := decide_eq_false (by omega)
            have a1 : decide (112 < y) = true := decide_eq_true hb
            clear ha hb
            go_wp2_with fail
            refine Grow.wp_region_growB (by kernel_rfl) (by kernel_rfl) ?_
            repeat ((first | (refine Grow.lex_skip (by rfl) ?_) | (refine Grow.lex_do _ (by rfl) (by intro W hj; have s0 := pw_cell_below hj.out y0; go_simp; first | exact Grow.Upon.val hj) ?_)); refine Grow.lex_norm (fun K hK => ?_); go_simp; refine hK _ ?_; clear hK K)
            refine Grow.lex_nil (fun W hj => ?_)
            have HB1 := Aside0.mk (bel_call HB.out hj.out); clear hj
            go_wp2
            go_ret
            exact ⟨by rw [HV.out]; rfl, HB1.out⟩
          · rcases Nat.eq_zero_or_pos k with hk0 | hk0
            · have HV := Aside0.mk (show tagStep f k = true by unfold tagStep inB; rw [decide_eq_true ha, decide_eq_true hb, decide_eq_true hk0]; rfl)
              generalize f.getD k 0 = y at y0 ha hb
              have a0 : decide (y < 97) = false := decide_eq_false (by omega)
              have a1 : decide (112 < y) = false := decide_eq_false (by omega)
              have a2 : decide ((0 : Int) < (k : Int)) = false := decide_eq_false (by omega)
              have a3 : decide (0 < k) = false := decide_eq_false (by omega)
              clear ha hb hk0
              go_wp2_with fail
              refine Grow.wp_region_growB (by kernel_rfl) (by kernel_rfl) ?_
              repeat ((first | (refine Grow.lex_skip (by rfl) ?_) | (refine Grow.lex_do _ (by rfl) (by intro W hj; have s0 := pw_cell_below hj.out y0; go_simp; first | exact Grow.Upon.val hj) ?_)); refine Grow.lex_norm (fun K hK => ?_); go_simp; refine hK _ ?_; clear hK K)
              refine Grow.lex_nil (fun W hj => ?_)
              have HB1 := Aside0.mk (bel_call HB.out hj.out); clear hj
              go_wp2
              go_roundg (1 + 1 - (k + 1))
              case measure => omega
              case rel => exact ⟨k + 1, rfl, hlt, by go_num, ⟨by rw [HS.out, HG.out, HV.out]; rfl⟩, HB1⟩
            · exact absurd hlt (by omega)
      · have hke : 1 = k := by omega
        subst hke
        have HV := Aside0.mk (show tagOk f = decide (0 < 1) by have h := tagOk_all HNE.out (by rw [HL.out]; exact HG.out); rw [h, HL.out])
        go_wp2
        go_ret
        exact ⟨by rw [HV.out]; rfl, HB.out⟩
  · have p0 : ((N : Int) == 1) = false := beq_false_of_ne (by omega)
    have p1 : decide ((N : Int) = 1) = false := decide_eq_false (by omega)
    clear h1 HF1
    go_enter Tryz.func22, Tryz.ntmps22
    go_wp2_with fail
    clear p0 p1
    go_loopg [3] (N + 1) (fun q v wr => ∃ k : Nat, q = N + 1 - k ∧ k ≤ N ∧ v = .int .i64 k ∧ Aside0 (allI k (tagStep f) = true) ∧ Aside0 (Below w.heap.size w wr))
    case atStart => exact ⟨0, by omega, by omega, rfl, ⟨rfl⟩, ⟨Below.refl _ _⟩⟩
    case round =>
      obtain ⟨k, rfl, hk, rfl, HG, HB⟩ := hrel
      by_cases hlt : k < N
      · obtain ⟨ad, e0, t0, _⟩ := Kd.flat_cells (d := kByte) rfl (Kd.C_below HR.out HB.out) 0 k hlt
        have y0 := t0 _ rfl
        simp only [Nat.mul_one] at y0
        clear t0
        cases e0
        have HS := Aside0.mk (show allI (k + 1) (tagStep f) = (allI k (tagStep f) && tagStep f k) from allI_succ k (tagStep f))
        have HK := Aside0.mk (show k < f.length by have := HL.out; omega)
        have hlu : ((k : Nat) : Int) < (N : Int) := by omega
        rcases Int.lt_or_le (f.getD k 0) 97 with ha | ha
        · have HV := Aside0.mk (tagOk_bad HNE.out HK.out (show tagStep f k = false by unfold tagStep inB; rw [decide_eq_false (show ¬ 97 ≤ f.getD k 0 by omega)]; simp))
          generalize f.getD k 0 = y at y0 ha
          have a0 : decide (y < 97) = true := decide_eq_true ha
          clear ha
          go_wp2_with fail
          refine Grow.wp_region_growB (by kernel_rfl) (by kernel_rfl) ?_
          repeat ((first | (refine Grow.lex_skip (by rfl) ?_) | (refine Grow.lex_do _ (by rfl) (by intro W hj; have s0 := pw_cell_below hj.out y0; go_simp; first | exact Grow.Upon.val hj) ?_)); refine Grow.lex_norm (fun K hK => ?_); go_simp; refine hK _ ?_; clear hK K)
          refine Grow.lex_nil (fun W hj => ?_)
          have HB1 := Aside0.mk (bel_call HB.out hj.out); clear hj
          go_wp2
          go_ret
          exact ⟨by rw [HV.out]; rfl, HB1.out⟩
        · rcases Int.lt_or_le 112 (f.getD k 0) with hb | hb
          · have HV := Aside0.mk (tagOk_bad HNE.out HK.out (show tagStep f k = false by unfold tagStep inB; rw [decide_eq_false (show ¬ f.getD k 0 ≤ 112 by omega)]; simp))
            generalize f.getD k 0 = y at y0 ha hb
            have a0 : decide (y < 97) = false := decide_eq_false (by omega)
            have a1 : decide (112 < y) = true := decide_eq_true hb
            clear ha hb
            go_wp2_with fail
            refine Grow.wp_region_growB (by kernel_rfl) (by kernel_rfl) ?_
            repeat ((first | (refine Grow.lex_skip (by rfl) ?_) | (refine Grow.lex_do _ (by rfl) (by intro W hj; have s0 := pw_cell_below hj.out y0; go_simp; first | exact Grow.Upon.val hj) ?_)); refine Grow.lex_norm (fun K hK => ?_); go_simp; refine hK _ ?_; clear hK K)
            refine Grow.lex_nil (fun W hj => ?_)
            have HB1 := Aside0.mk (bel_call HB.out hj.out); clear hj
            go_wp2
            go_ret
            exact ⟨by rw [HV.out]; rfl, HB1.out⟩
          · rcases Nat.eq_zero_or_pos k with hk0 | hk0
            · have HV := Aside0.mk (show tagStep f k = true by unfold tagStep inB; rw [decide_eq_true ha, decide_eq_true hb, decide_eq_true hk0]; rfl)
              generalize f.getD k 0 = y at y0 ha hb
              have a0 : decide (y < 97) = false := decide_eq_false (by omega)
              have a1 : decide (112 < y) = false := decide_eq_false (by omega)
              have a2 : decide ((0 : Int) < (k : Int)) = false := decide_eq_false (by omega)
              have a3 : decide (0 < k) = false := decide_eq_false (by omega)
              clear ha hb hk0
              go_wp2_with fail
              refine Grow.wp_region_growB (by kernel_rfl) (by kernel_rfl) ?_
              repeat ((first | (refine Grow.lex_skip (by rfl) ?_) | (refine Grow.lex_do _ (by rfl) (by intro W hj; have s0 := pw_cell_below hj.out y0; go_simp; first | exact Grow.Upon.val hj) ?_)); refine Grow.lex_norm (fun K hK => ?_); go_simp; refine hK _ ?_; clear hK K)
              refine Grow.lex_nil (fun W hj => ?_)
              have HB1 := Aside0.mk (bel_call HB.out hj.out); clear hj
              go_wp2
              go_roundg (N + 1 - (k + 1))
              case measure => omega
              case rel => exact ⟨k + 1, rfl, hlt, by go_num, ⟨by rw [HS.out, HG.out, HV.out]; rfl⟩, HB1⟩
            · obtain ⟨j, rfl⟩ : ∃ j, k = j + 1 := ⟨k - 1, by omega⟩
              obtain ⟨ad', e1, t1, _⟩ := Kd.flat_cells (d := kByte) rfl (Kd.C_below HR.out HB.out) 0 j (by omega)
              replace y0 : wr.cell? ⟨ad.block, ad.off + (j + 1), none⟩ = some (.int .u8 (f.getD (j + 1) 0)) := y0
              have y1 := t1 _ rfl
              simp only [Nat.mul_one] at y1
              clear t1
              cases e1
              have q0 : IntKind.i64.wrap ((j : Int) + 1 - 1) = (j : Int) := by rw [IntWalk.i64_in _ (by omega)]; omega
              have q1 : IntKind.i64.wrap (j : Int) = (j : Int) := IntWalk.i64_in _ (by omega)
              have hlj : ((j : Nat) : Int) < (N : Int) := by omega
              have hlv : ((j : Nat) : Int) + 1 < (N : Int) := by omega
              have a2 : decide ((0 : Int) < (j : Int) + 1) = true := decide_eq_true (by omega)
              rcases Int.lt_or_le (f.getD j 0) (f.getD (j + 1) 0) with hz | hz
              · have HV := Aside0.mk (show tagStep f (j + 1) = true by unfold tagStep inB; rw [decide_eq_true ha, decide_eq_true hb, show j + 1 - 1 = j from rfl, decide_eq_true hz]; simp)
                generalize f.getD (j + 1) 0 = y at y0 ha hb hz
                generalize f.getD j 0 = z at y1 hz
                have a0 : decide (y < 97) = false := decide_eq_false (by omega)
                have a1 : decide (112 < y) = false := decide_eq_false (by omega)
                have a3 : decide (y ≤ z) = false := decide_eq_false (by omega)
                clear ha hb hz hk0
                go_wp2_with fail
                refine Grow.wp_region_growB (by kernel_rfl) (by kernel_rfl) ?_
                repeat ((first | (refine Grow.lex_skip (by rfl) ?_) | (refine Grow.lex_do _ (by rfl) (by intro W hj; have s0 := pw_cell_below hj.out y0; have s1 := pw_cell_below hj.out y1; go_simp; first | exact Grow.Upon.val hj) ?_)); refine Grow.lex_norm (fun K hK => ?_); go_simp; refine hK _ ?_; clear hK K)
                refine Grow.lex_nil (fun W hj => ?_)
                have HB1 := Aside0.mk (bel_call HB.out hj.out); clear hj
                go_wp2
                go_roundg (N + 1 - (j + 1 + 1))
                case measure => omega
                case rel => exact ⟨j + 1 + 1, rfl, hlt, by go_num, ⟨by rw [HS.out, HG.out, HV.out]; rfl⟩, HB1⟩
              · have HV := Aside0.mk (tagOk_bad HNE.out HK.out (show tagStep f (j + 1) = false by unfold tagStep inB; rw [show j + 1 - 1 = j from rfl, decide_eq_false (show ¬ f.getD j 0 < f.getD (j + 1) 0 by omega)]; simp))
                generalize f.getD (j + 1) 0 = y at y0 ha hb hz
                generalize f.getD j 0 = z at y1 hz
                have a0 : decide (y < 97) = false := decide_eq_false (by omega)
                have a1 : decide (112 < y) = false := decide_eq_false (by omega)
                have a3 : decide (y ≤ z) = true := decide_eq_true hz
                clear ha hb hz hk0
                go_wp2_with fail
                refine Grow.wp_region_growB (by kernel_rfl) (by kernel_rfl) ?_
                repeat ((first | (refine Grow.lex_skip (by rfl) ?_) | (refine Grow.lex_do _ (by rfl) (by intro W hj; have s0 := pw_cell_below hj.out y0; have s1 := pw_cell_below hj.out y1; go_simp; first | exact Grow.Upon.val hj) ?_)); refine Grow.lex_norm (fun K hK => ?_); go_simp; refine hK _ ?_; clear hK K)
                refine Grow.lex_nil (fun W hj => ?_)
                have HB1 := Aside0.mk (bel_call HB.out hj.out); clear hj
                go_wp2
                go_ret
                exact ⟨by rw [HV.out]; rfl, HB1.out⟩
      · have hke : N = k := by omega
        subst hke
        have HV := Aside0.mk (show tagOk f = decide (0 < N) by have h := tagOk_all HNE.out (by rw [HL.out]; exact HG.out); rw [h, HL.out])
        go_wp2
        go_ret
        exact ⟨by rw [HV.out]; simp, HB.out⟩
end
end Go.Proofs.YtogjkkbhmanbmaaGreatDoor.L1
set_option linter.unusedVariables false
namespace Go.Proofs.YtogjkkbhmanbmaaGreatDoor.Grow
section
variable {P : Program} {ops : Array Oper} {md : Region.Mode}
/-- Every edge that binds leads back in the text. -/
def backB (md : Region.Mode) (ops : Array Oper) : Bool := (List.range ops.size).all fun i => match ops[i]? with | some o => o.after.all fun e => !Region.binds md e || decide (e.on < i) | none => true
theorem backB_spec (h : backB md ops = true) {i : Nat} {o : Oper} (ho : ops[i]? = some o) {e : Edge} (he : e ∈ o.after) (hb : Region.binds md e = true) : e.on < i := by
  have hi : i < ops.size := (Array.getElem?_eq_some_iff.1 ho).1
  have := List.all_eq_true.1 h i (List.mem_range.2 hi)
  rw [ho] at this
  have := Array.all_eq_true'.1 this e he
  simp only [hb, Bool.not_true, Bool.false_or, decide_eq_true_eq] at this
  exact this
theorem all_listed {l : Array Bool} (hs : l.size = ops.size) (hb : backB md ops = true) (h : Region.ready md ops l = []) : ∀ i, i < ops.size → l.getD i false = true := by
  intro i
  induction i using Nat.strongRecOn with
  | _ i ih =>
    intro hi
    cases hl : l.getD i false with
    | true => rfl
    | false =>
      have ho : ops[i]? = some ops[i] := Array.getElem?_eq_getElem hi
      have : i ∈ Region.ready md ops l := mem_ready.2 ⟨by simp [hs, hi] at hl ⊢; exact hl, ops[i], ho, fun e he hbe => ih e.on (backB_spec hb ho he hbe) (by have := backB_spec hb ho he hbe; omega)⟩
      rw [h] at this; cases this
/-- One operation keeps I. -/
def Step (P : Program) (ops : Array Oper) (md : Region.Mode) (I : (Nat → Bool) → Act → World → Prop) (Q : Exit → Act → World → Prop) (i : Nat) (o : Oper) : Prop :=
  ∀ (p : Nat → Bool) (a : Act) (w : World), (∀ e ∈ o.after, Region.binds md e = true → p e.on = true) → p i = false → I p a w → o.wp P a w (fun a' w' => I (fun j => p j || j == i) a' w') Q
def Steps (P : Program) (ops : Array Oper) (md : Region.Mode) (I : (Nat → Bool) → Act → World → Prop) (Q : Exit → Act → World → Prop) : Nat → List Oper → Prop
  | _, [] => True
  | i, o :: r => Step P ops md I Q i o ∧ Steps P ops md I Q (i + 1) r
theorem Steps.at {I : (Nat → Bool) → Act → World → Prop} {Q : Exit → Act → World → Prop} : ∀ (l : List Oper) (k : Nat), Steps P ops md I Q k l → ∀ (j : Nat) (o : Oper), l[j]? = some o → Step P ops md I Q (k + j) o
  | [], _, _, j, o, h => by simp at h
  | x :: l, k, hs, 0, o, h => by
    simp at h; subst h
    exact hs.1
  | x :: l, k, hs, j + 1, o, h => by
    have := Steps.at l (k + 1) hs.2 j o (by simpa using h)
    rwa [show k + 1 + j = k + (j + 1) by omega] at this
theorem any_inv {I : (Nat → Bool) → Act → World → Prop} {Q : Exit → Act → World → Prop} (hg : ops.toList.all (fun o => o.guard.isNone) = true) (hb : backB md ops = true) (hstep : Steps P ops md I Q 0 ops.toList)
    (hend : ∀ p a w, (∀ i, i < ops.size → p i = true) → I p a w → Q .normal a w) :
    ∀ (n : Nat) (l : Array Bool) (a : Act) (w : World), l.size = ops.size → l.toList.count false ≤ n → I (fun j => l.getD j false) a w → wpAny P md ops Q n l a w
  | 0, l, a, w, hs, hc, hI => by
    have hall : ∀ i, i < ops.size → l.getD i false = true := fun i hi => by
      cases hl : l.getD i false with
      | true => rfl
      | false =>
        have hi' : i < l.toList.length := by simp; omega
        have hmem : false ∈ l.toList := by
          have : l.toList[i] = false := by simp [hs, hi] at hl ⊢; exact hl
          exact this ▸ List.getElem_mem hi'
        have := List.count_pos_iff.2 hmem
        omega
    refine ⟨?_, hend _ _ _ hall hI⟩
    cases hr : Region.ready md ops l with
    | nil => rfl
    | cons i r =>
      have hi : i ∈ Region.ready md ops l := by rw [hr]; exact List.mem_cons_self
      obtain ⟨h0, o, ho, _⟩ := mem_ready.1 hi
      have hlt := (Array.getElem?_eq_some_iff.1 ho).1
      have := hall i hlt
      rw [getD_both h0] at this
      cases this
  | n + 1, l, a, w, hs, hc, hI => by
    refine ⟨fun h0 => hend _ _ _ (all_listed hs hb h0) hI, fun i hi => ?_⟩
    obtain ⟨h0, o, ho, hall⟩ := mem_ready.1 hi
    have hlt := (Array.getElem?_eq_some_iff.1 ho).1
    have hst := Steps.at ops.toList 0 hstep i o (by simpa using ho)
    rw [Nat.zero_add] at hst
    have hx := hst _ a w (fun e he hbe => hall e he hbe) (getD_both h0) hI
    have hw : Region.wanted o (yielded ops a.tmps) = true := by
      have h1 := List.all_eq_true.1 hg o (by obtain ⟨h2, h3⟩ := Array.getElem?_eq_some_iff.1 ho; rw [← h3]; simp)
      unfold Region.wanted
      cases hgu : o.guard with
      | none => rfl
      | some g => rw [hgu] at h1; cases h1
    unfold wpOp
    simp only [ho, hw, if_true]
    refine .inl (Oper.wp_mono (fun a' w' hI' => ?_) hx)
    refine any_inv hg hb hstep hend n _ a' w' (by simp [hs]) ?_ ?_
    · have hi' : i < l.toList.length := by simp; omega
      have e : (l.setIfInBounds i true).toList = l.toList.set i true := by simp
      have hf : l.toList[i] = false := by have := getD_both h0; simp [hs, hlt] at this ⊢; exact this
      rw [e, List.count_set hi', hf, if_pos (by rfl), if_neg (by decide)]
      have : 0 < l.toList.count false := List.count_pos_iff.2 (hf ▸ List.getElem_mem hi')
      omega
    · have e : (fun j => (l.setIfInBounds i true).getD j false) = fun j => l.getD j false || j == i := by
        funext j
        by_cases hj : i = j
        · subst hj
          simp [hs, hlt]
        · rw [getD_set_ne false hj]
          simp [Ne.symm hj]
      rw [e]
      exact hI'
theorem wp_opaque {o : Oper} {a : Act} {w : World} {I : Act → World → Prop} {Q : Exit → Act → World → Prop} (h : ∀ K : Act → World → Prop, (∀ a w, I a w → K a w) → o.wp P a w K Q) : o.wp P a w I Q := h I fun _ _ h => h
theorem wp_region_inv {id : Nat} {Q : Exit → Act → World → Prop} {a : Act} {w : World} {l : List Oper} (I : Act → World → (Nat → Bool) → Act → World → Prop) (hm : P.follows .mixedOrders = true) (hg : l.all (fun o => o.guard.isNone) = true) (hb : backB .any l.toArray = true)
    (hstart : I a w (fun _ => false) a { w with drawn := w.drawn + 1 }) (hstep : Steps P l.toArray .any (I a w) Q 0 l) (hend : ∀ a' w', (∃ p : Nat → Bool, (∀ i, i < l.length → p i = true) ∧ I a w p a' w') → Q .normal a' w') : (Code.region id l.toArray true).wp P Q a w := by
  refine wp_region_any hm (any_inv (I := I a w) (by simpa using hg) hb (by simpa using hstep) (fun p a' w' hp hi => hend a' w' ⟨p, fun i h => hp i (by simpa using h), hi⟩) _ _ _ _ (by simp) (by simp) ?_)
  have e : (fun j => (Array.replicate l.toArray.size false).getD j false) = fun _ => false := by funext j; exact getD_replicate_false _ _
  rw [e]
  exact hstart
end
end Go.Proofs.YtogjkkbhmanbmaaGreatDoor.Grow
set_option linter.unusedVariables false
namespace Go.Proofs.YtogjkkbhmanbmaaGreatDoor.Grow
section
variable {P : Program}
end
end Go.Proofs.YtogjkkbhmanbmaaGreatDoor.Grow
namespace Go.Proofs.YtogjkkbhmanbmaaGreatDoor.L1
open Go.RowKit Go.Proofs.YtogjkkbhmanbmaaGreatDoorW.PrintWords Go.Proofs.YtogjkkbhmanbmaaGreatDoor.B
set_option linter.unusedVariables false
set_option linter.unusedSimpArgs false
attribute [local go_sem] mk_cell mk_frozen
/-- Only blocks of S, and new ones, are written. -/
structure Tch (S : Nat → Prop) (W W' : World) : Prop where
  size : W.heap.size ≤ W'.heap.size
  same : ∀ k, k < W.heap.size → ¬S k → W'.heap[k]? = W.heap[k]?
  below : ∀ w0 : World, (∀ k, S k → w0.heap.size ≤ k) → Below w0.heap.size w0 W → Below w0.heap.size w0 W'
theorem Tch.refl (S : Nat → Prop) (W : World) : Tch S W W := ⟨Nat.le_refl _, fun _ _ _ => rfl, fun _ _ h => h⟩
theorem Tch.trans {S : Nat → Prop} {W W1 W2 : World} (h : Tch S W W1) (h' : Tch S W1 W2) : Tch S W W2 :=
  ⟨Nat.le_trans h.size h'.size, fun k hk hs => (h'.same k (Nat.lt_of_lt_of_le hk h.size) hs).trans (h.same k hk hs), fun w0 h0 hb => h'.below w0 h0 (h.below w0 h0 hb)⟩
theorem Tch.of_below {S : Nat → Prop} {W W1 : World} (h : Below W.heap.size W W1) : Tch S W W1 := ⟨h.size, fun k hk _ => h.block k hk, fun w0 _ hb => bel_call hb h⟩
theorem Tch.mono {S S' : Nat → Prop} {W W1 : World} (h : Tch S W W1) (hs : ∀ k, S k → S' k) : Tch S' W W1 := ⟨h.size, fun k hk hn => h.same k hk fun hk' => hn (hs k hk'), fun w0 h0 hb => h.below w0 (fun k hk => h0 k (hs k hk)) hb⟩
theorem Tch.set {S : Nat → Prop} {W : World} {b o : Nat} {v : Value} (h : S b) : Tch S W (W.setCell ⟨b, o, none⟩ v) :=
  ⟨Nat.le_of_eq (World.size_setCell _ _ _).symm, fun k _ hn => Below.heap_setCell W ⟨b, o, none⟩ v k (fun e => hn (by rw [e]; exact h)), fun w0 h0 hb => bel_set hb (h0 b h) v⟩
theorem Tch.grown {S : Nat → Prop} {W W1 : World} {b : Nat} (hg : W.grownBy W1 (some b)) (h : S b) (hz : W.heap.size ≤ W1.heap.size) : Tch S W W1 :=
  ⟨hz, fun k hk hn => hg.block k hk (fun e => hn (by injection e with e; rw [e]; exact h)), fun w0 h0 hb => pw_below_grown hb (some b) hb.size hg (fun k hk => by cases hk; exact h0 b h)⟩
/-- A result that lies in a block known whole. -/
theorem results_cell {P : Program} {fn : Func} {tmps : Array Value} {w : World} {a : Nat} {ty T : TypeId} {g : Nat} {cs : Array Value} {d : TypeDesc} (hr : fn.results = #[.cell a ty]) (hp : tmps.getD a undef = .pointer (some ⟨g, 0, none⟩)) (hg : w.heap[g]? = some (.cells cs T (0, 0)))
    (hu : P.underlying ty = some d) (hd : (match d with | .struct _ | .array _ _ => true | _ => false) = true) (hi : (P.info? ty).map (·.size) = some cs.size) : (results fn tmps).run P w = .ok (.agg cs) w := by
  have h := run_loadVar_row w g T ty cs (0, 0) d hg hu hd hi
  have hp' : tmps[a]?.getD undef = Value.pointer (some ⟨g, 0, none⟩) := by simpa using hp
  simp [results, hr, hp', asAddr, Sem.run_bind, h]
/-- A whole block is written. -/
theorem wpList_putAll {P : Program} {ops : Array Oper} {rest : List Oper} {o : Oper} {a : Act} {Q : Exit → Act → World → Prop} {W : World} (hN : o.dst = none) (hgd : o.guard = none) (t : TypeId) (p x : Operand) (ho : o.op = .store t p x) {g : Nat} {cs : Array Value} {T : TypeId} (vs : List Value) (haddr : a.eval p = .pointer (some ⟨g, 0, none⟩)) (hx : (a.eval x).cells.toList = vs)
    (ht : (P.info? t).map (·.size) = some vs.length) (h1 : ∀ q ∈ vs, q.oneCell' = true) (hg : W.heap[g]? = some (.cells cs T (0, 0))) (hl : vs.length = cs.size) (h : ∀ w1, w1.heap[g]? = some (.cells vs.toArray T (0, 0)) → Tch (fun k => k = g) W w1 → w1.heap.size = W.heap.size → wpList P ops Q rest a w1) : wpList P ops Q (o :: rest) a W := by
  obtain ⟨cur, h2, h3, h4⟩ := setCells_row vs 0 W cs hg (by omega)
  obtain ⟨s1, s2, s3, s4⟩ := setCells_same g vs 0 W
  have h5 : cur = vs.toArray := by
    apply Array.toList_inj.1
    rw [h4, List.take_zero, List.nil_append, List.drop_of_length_le (by simp; omega), List.append_nil]
  have hgr : W.grownBy (W.setCells g 0 vs) (some g) := ⟨s1, s2, s3, Nat.le_of_eq s4.symm, fun k _ hk => setCells_far vs 0 k (fun e => hk (by rw [e]))⟩
  have hrun : (Instr.storeAt t (.pointer (some ⟨g, 0, none⟩)) (a.eval x)).run P W = .ok () (W.setCells g 0 vs) := run_store_run t _ vs hg hx ht (by omega) h1
  refine wpList_plain hgd fun K hK => ?_
  unfold Oper.wp execOp
  simp only [ho, haddr, Sem.run_bind, Sem.run_pure, Result.andThen_ok, hrun]
  show K (a.put o.dst undef) _
  rw [hN]
  exact hK a _ (h _ (by rw [h2, h5]) (Tch.grown hgr rfl hgr.size) s4)
theorem tch_keep {W W' : World} {b k : Nat} {cs ck : Array Value} {T Tk : TypeId} (ht : Tch (fun k => k = b) W W') (hb : W.heap[b]? = some (.cells cs T (0, 0))) (hx : W.heap[k]? = some (.cells ck Tk (0, 0))) (hne : Tk ≠ T) : W'.heap[k]? = some (.cells ck Tk (0, 0)) :=
  (ht.same k (blk_lt hx) (blk_ne hx hb hne)).trans hx
theorem wpList_put1 {P : Program} {ops : Array Oper} {rest : List Oper} {o : Oper} {a : Act} {Q : Exit → Act → World → Prop} {W : World} (hN : o.dst = none) (hgd : o.guard = none) (t : TypeId) (p x : Operand) (ho : o.op = .store t p x) {g i : Nat} {cs : Array Value} {T : TypeId} (v : Value) (haddr : a.eval p = .pointer (some ⟨g, i, none⟩)) (hx : a.eval x = v) (hv : v.cells.toList = [v])
    (ht : (P.info? t).map (·.size) = some 1) (h1 : v.oneCell' = true) (hg : W.heap[g]? = some (.cells cs T (0, 0))) (hi : i < cs.size) (h : ∀ w1, w1.heap[g]? = some (.cells (cs.setIfInBounds i v) T (0, 0)) → Tch (fun k => k = g) W w1 → w1.heap.size = W.heap.size → wpList P ops Q rest a w1) : wpList P ops Q (o :: rest) a W := by
  have hrun : (Instr.storeAt t (.pointer (some ⟨g, i, none⟩)) v).run P W = .ok () (W.setCells g i [v]) := run_store_run t v [v] hg hv ht (by simp; omega) (by intro q hq; rw [List.mem_singleton.1 hq]; exact h1)
  have e : W.setCells g i [v] = W.setCell ⟨g, i, none⟩ v := rfl
  refine wpList_plain hgd fun K hK => ?_
  unfold Oper.wp execOp
  simp only [ho, haddr, hx, Sem.run_bind, Sem.run_pure, Result.andThen_ok, hrun]
  show K (a.put o.dst undef) _
  rw [hN, e]
  exact hK a _ (h _ (blk_set hg i v) (Tch.set rfl) (World.size_setCell _ _ _))
theorem act_put_old (a : Act) (d : Tmp) : a.put (some d) (a.tmps.getD d undef) = a := by
  cases a with
  | mk t df =>
    simp only [Act.put]
    congr 1
    apply Array.ext (by simp)
    intro i h1 h2
    simp only [Array.getElem_setIfInBounds h2, Array.getD_eq_getD_getElem?]
    split
    · rename_i he; subst he; simp [h2]
    · rfl
theorem act_put_comm (a : Act) {d d' : Tmp} (h : d ≠ d') (x y : Value) : (a.put (some d) x).put (some d') y = (a.put (some d') y).put (some d) x := by
  simp only [Act.put]
  rw [Array.setIfInBounds_comm _ _ h]
theorem act_eval_ne (a : Act) {d t : Tmp} (h : t ≠ d) (x : Value) : (a.put (some d) x).eval (.tmp t) = a.eval (.tmp t) := by
  simp [Act.put, Act.eval, Array.getD_eq_getD_getElem?, Array.getElem?_setIfInBounds_ne (Ne.symm h)]
theorem act_eval_eq (a : Act) {d : Tmp} (h : d < a.tmps.size) (x : Value) : (a.put (some d) x).eval (.tmp d) = x := by
  simp [Act.put, Act.eval, Array.getD_eq_getD_getElem?, h]
theorem act_size (a : Act) (d : Option Tmp) (x : Value) : (a.put d x).tmps.size = a.tmps.size := by cases d <;> simp [Act.put]
/-- 'return e, s': the struct is read, the number is laid, the result's block is written, in any order that the edges allow. -/
theorem wp_region_ret {P : Program} {id : Nat} {Q : Exit → Act → World → Prop} {a : Act} {w : World} {o0 o1 o2 : Oper} (hm : P.follows .mixedOrders = true)
    (s r i j : Tmp) (ty To : TypeId) (e : Value) {gI gO : Nat} {cs co : List Value} {d : TypeDesc}
    (h0 : o0.dst = some s ∧ o0.op = .load ty (.tmp i)) (h1 : o1.dst = some r ∧ o1.op = .assign (.const e)) (h2 : o2.dst = none ∧ o2.op = .store ty (.tmp j) (.tmp s))
    (hg : [o0, o1, o2].all (fun o => o.guard.isNone) = true) (hb : Go.Proofs.YtogjkkbhmanbmaaGreatDoor.Grow.backB .any [o0, o1, o2].toArray = true)
    (he : o2.after.any (fun e => e.on == 0 && Region.binds .any e) = true) (hne : (s ≠ r ∧ i ≠ s ∧ i ≠ r) ∧ j ≠ s ∧ j ≠ r) (hs : s < a.tmps.size)
    (hpi : a.eval (.tmp i) = .pointer (some ⟨gI, 0, none⟩)) (hpj : a.eval (.tmp j) = .pointer (some ⟨gO, 0, none⟩))
    (hu : P.underlying ty = some d) (hd : (match d with | .struct _ | .array _ _ => true | _ => false) = true) (hi : (P.info? ty).map (·.size) = some cs.length) (hl : cs.length = co.length)
    (hI : w.heap[gI]? = some (.cells cs.toArray To (0, 0))) (hO : w.heap[gO]? = some (.cells co.toArray To (0, 0))) (hIO : gI ≠ gO) (hc : ∀ q ∈ cs, q.oneCell' = true)
    (h : ∀ w1, w1.heap[gO]? = some (.cells cs.toArray To (0, 0)) → Tch (fun k => k = gO) w w1 → Q .normal ((a.put (some r) e).put (some s) (.agg cs.toArray)) w1) : (Code.region id [o0, o1, o2].toArray true).wp P Q a w := by
  obtain ⟨⟨hsr, his, hir⟩, hjs, hjr⟩ := hne
  let mk : (Nat → Bool) → Act := fun f => (a.put (some r) (if f 1 = true then e else a.tmps.getD r undef)).put (some s) (if f 0 = true then .agg cs.toArray else a.tmps.getD s undef)
  have hmi : ∀ f, (mk f).eval (.tmp i) = .pointer (some ⟨gI, 0, none⟩) := fun f => by show ((a.put (some r) _).put (some s) _).eval (.tmp i) = _; rw [act_eval_ne _ his, act_eval_ne _ hir, hpi]
  have hmj : ∀ f, (mk f).eval (.tmp j) = .pointer (some ⟨gO, 0, none⟩) := fun f => by show ((a.put (some r) _).put (some s) _).eval (.tmp j) = _; rw [act_eval_ne _ hjs, act_eval_ne _ hjr, hpj]
  have hms : ∀ f : Nat → Bool, f 0 = true → (mk f).eval (.tmp s) = .agg cs.toArray := fun f hf => by show ((a.put (some r) _).put (some s) _).eval (.tmp s) = _; rw [act_eval_eq _ (by rw [act_size]; exact hs), if_pos hf]
  refine Go.Proofs.YtogjkkbhmanbmaaGreatDoor.Grow.wp_region_inv (fun _ _ f A W => A = mk f ∧ Tch (fun k => k = gO) w W ∧ W.heap[gI]? = some (.cells cs.toArray To (0, 0)) ∧ W.heap[gO]? = some (.cells (if f 2 = true then cs.toArray else co.toArray) To (0, 0))) hm hg hb ?_ ⟨?_, ?_, ?_, trivial⟩ ?_
  · refine ⟨?_, Tch.of_below (below_drew (Below.refl _ _)), hI, by simpa using hO⟩
    show a = (a.put (some r) (if (false = true) then e else a.tmps.getD r undef)).put (some s) (if (false = true) then .agg cs.toArray else a.tmps.getD s undef)
    rw [if_neg (by decide), if_neg (by decide), act_put_old, act_put_old]
  · intro f A W hp hn ⟨hA, hT, hWI, hWO⟩
    have hrun : (Instr.loadAt ty (A.eval (.tmp i))).run P W = .ok (.agg cs.toArray) W := by
      rw [hA, hmi]; simp only [Instr.loadAt, Instr.sureAddr, Sem.run_bind, Sem.run_pure, Result.andThen_ok]
      exact run_loadVar_row W gI To ty cs.toArray (0, 0) d hWI hu hd (by rw [hi]; simp)
    unfold Oper.wp execOp
    simp only [h0.2, Sem.run_bind, Sem.run_pure, Result.andThen_ok, hrun]
    show _ = _ ∧ _
    refine ⟨?_, hT, hWI, by simpa using hWO⟩
    rw [h0.1, hA]
    show ((a.put (some r) _).put (some s) _).put (some s) _ = (a.put (some r) _).put (some s) _
    rw [Go.Proofs.YtogjkkbhmanbmaaGreatDoor.Grow.put_put]; simp
  · intro f A W hp hn ⟨hA, hT, hWI, hWO⟩
    unfold Oper.wp execOp
    simp only [h1.2, Sem.run_pure]
    show _ = _ ∧ _
    refine ⟨?_, hT, hWI, by simpa using hWO⟩
    rw [h1.1, hA]
    show ((a.put (some r) _).put (some s) _).put (some r) _ = (a.put (some r) _).put (some s) _
    rw [act_put_comm _ hsr, Go.Proofs.YtogjkkbhmanbmaaGreatDoor.Grow.put_put]; simp [Act.eval]
  · intro f A W hp hn ⟨hA, hT, hWI, hWO⟩
    have hf0 : f 0 = true := by
      rw [Array.any_eq_true] at he
      obtain ⟨k, hk, hk2⟩ := he
      simp only [Bool.and_eq_true, beq_iff_eq] at hk2
      have := hp _ (Array.getElem_mem hk) hk2.2
      rw [hk2.1] at this; exact this
    rw [if_neg (by rw [hn]; decide)] at hWO
    obtain ⟨cur, q2, q3, q4⟩ := setCells_row cs 0 W co.toArray hWO (by simp [hl])
    obtain ⟨s1, s2, s3, s4⟩ := setCells_same gO cs 0 W
    have h5 : cur = cs.toArray := by
      apply Array.toList_inj.1
      rw [q4, List.take_zero, List.nil_append, List.drop_of_length_le (by simp; omega), List.append_nil]
    have hgr : W.grownBy (W.setCells gO 0 cs) (some gO) := ⟨s1, s2, s3, Nat.le_of_eq s4.symm, fun k _ hk => setCells_far cs 0 k (fun e => hk (by rw [e]))⟩
    have hrun : (Instr.storeAt ty (.pointer (some ⟨gO, 0, none⟩)) (A.eval (.tmp s))).run P W = .ok () (W.setCells gO 0 cs) := run_store_run ty _ cs hWO (by rw [hA, hms f hf0]; rfl) hi (by simp [hl]) hc
    unfold Oper.wp execOp
    have hj : A.eval (.tmp j) = .pointer (some ⟨gO, 0, none⟩) := by rw [hA]; exact hmj f
    simp only [h2.2, hj, Sem.run_bind, Sem.run_pure, Result.andThen_ok, hrun]
    show _ = _ ∧ _
    refine ⟨?_, hT.trans (Tch.grown hgr rfl hgr.size), ?_, ?_⟩
    · rw [h2.1, hA]; show (a.put (some r) _).put (some s) _ = (a.put (some r) _).put (some s) _; simp
    · rw [hgr.block gI (by have := (Array.getElem?_eq_some_iff.1 hWI).1; exact this) (by intro e; injection e with e; exact hIO e), hWI]
    · rw [q2, h5]; simp
  · rintro a' w' ⟨f, hf, hA, hT, _, hWO⟩
    have e0 := hf 0 (by simp); have e1 := hf 1 (by simp); have e2 := hf 2 (by simp)
    rw [if_pos e2] at hWO
    have hA' : a' = (a.put (some r) e).put (some s) (.agg cs.toArray) := by
      rw [hA]; show (a.put (some r) (if f 1 = true then _ else _)).put (some s) (if f 0 = true then _ else _) = _
      rw [if_pos e1, if_pos e0]
    rw [hA']
    exact h w' hWO hT
/-- A row is left alone by what writes a block of another type. -/
theorem R_tch {α : Type} {d : Kd α} {e base : Nat} {ok : Nat → Prop} {W W1 : World} {v : Value} {xs : List α} {b : Nat} {cs : Array Value} {T : TypeId} (h : d.R e W base ok v xs) (ht : Tch (fun k => k = b) W W1) (hb : W.heap[b]? = some (.cells cs T (0, 0))) (hne : T ∉ e :: d.E) : d.R e W1 base ok v xs :=
  Kd.R_mono (Kd.R_step (Kd.R_bound h) (fun k ho hk => ht.same k hk (fun e' => by
    obtain ⟨_, _, _, q, hq, cells, hc⟩ := ho
    rw [e', hb] at hc
    cases hc
    exact hne hq))) fun _ hk => hk.1
end Go.Proofs.YtogjkkbhmanbmaaGreatDoor.L1
namespace Go.Proofs.YtogjkkbhmanbmaaGreatDoor.L1
open Go.RowKit Go.Proofs.YtogjkkbhmanbmaaGreatDoorW.PrintWords Go.Proofs.YtogjkkbhmanbmaaGreatDoor.B
set_option linter.unusedVariables false
set_option linter.unusedSimpArgs false
attribute [local go_sem] mk_cell mk_frozen
/-- A word lies at a cell. -/
def WordAt (W : World) (B j : Nat) (f : List Int) : Prop := ∃ A c, W.cell? ⟨B, j, none⟩ = some (.slice A f.length c) ∧ f.length ≤ c ∧ ((A = none ∧ f = []) ∨ ∃ b, A = some ⟨b, 0, none⟩) ∧ kByte.C W A f.length f
def Words (W : World) (B : Nat) (fs : List (List Int)) : Prop := ∀ j, j < fs.length → WordAt W B j (fs.getD j [])
theorem WordAt.below {W W1 : World} {B j : Nat} {f : List Int} (h : WordAt W B j f) (hb : Below W.heap.size W W1) : WordAt W1 B j f := by
  obtain ⟨A, c, h1, h2, h3, h4⟩ := h
  exact ⟨A, c, pw_cell_below hb h1, h2, h3, Kd.C_below h4 hb⟩
theorem Words.below {W W1 : World} {B : Nat} {fs : List (List Int)} (h : Words W B fs) (hb : Below W.heap.size W W1) : Words W1 B fs := fun j hj => (h j hj).below hb
theorem Flds.words {W : World} {base : Nat} {ok : Nat → Prop} {v : Value} {ps : List Sl} {fs : List (List Int)} (h : kSl.R 22 W base ok v ps) (hF : Flds W ps fs) (hT : Fit ps fs) (hn : 0 < fs.length) : ∃ B c, v = .slice (some ⟨B, 0, none⟩) fs.length c ∧ fs.length ≤ c ∧ Words W B fs := by
  have hl := hF.len
  obtain ⟨inner, _, ho⟩ := Kd.R_own h
  rcases ho with ⟨e, hz⟩ | ⟨g, cap, cur, e, _, _, hc, _⟩
  · omega
  · have hr := (Kd.R_reads' (e ▸ h)).2.2
    rw [hl] at hr e hc
    refine ⟨g, cap, e, hc, fun j hj => ?_⟩
    obtain ⟨h1, h2⟩ := hF.at j hj
    obtain ⟨h3, h4⟩ := hT.at j hj
    obtain ⟨ad, e0, t0, _⟩ := Kd.flat_cells (d := kSl) rfl hr zSl j (by omega)
    cases e0
    have := t0 _ rfl
    rw [Nat.mul_one, Addr.add_lit, Nat.zero_add] at this
    exact ⟨_, _, by rw [this, h1], h3, h4, h2⟩
theorem WordAt.num {W : World} {B j : Nat} {f : List Int} (h : WordAt W B j f) (hn : isNum f = true) : ∃ A c, W.cell? ⟨B, j, none⟩ = some (.slice A f.length c) ∧ ∀ W1 : World, Below W.heap.size W W1 → Calls Tryz.prog 24 #[.slice A f.length c] W1 fun e w' => e = .returned (.int .i64 (numVal f)) ∧ Below W1.heap.size W1 w' := by
  obtain ⟨A, c, h1, h2, h3, h4⟩ := h
  exact ⟨A, c, h1, fun W1 hb => spec_number W1 A c f h2 (Kd.C_below h4 hb) hn⟩
def placeOf (fs : List (List Int)) (i : Nat) : Place := ⟨numVal (fs.getD i []), numVal (fs.getD (i + 1) []), numVal (fs.getD (i + 2) []), numVal (fs.getD (i + 3) []), numVal (fs.getD (i + 4) [])⟩
section
variable (w : World)
set_option maxRecDepth 100000 in
set_option maxHeartbeats 4000000 in
theorem spec_placeAt3 (B n c : Nat) (fs : List (List Int)) (hw : Words w B fs) (hl : 8 ≤ fs.length) (hn : 8 ≤ n) (hnum : ∀ j, 3 ≤ j → j < 8 → isNum (fs.getD j []) = true) : Calls Tryz.prog 26 #[.slice (some ⟨B, 0, none⟩) n c, .int .i64 3] w fun e w' => e = .returned (placeOf fs 3).val ∧ Below w.heap.size w w' := by
  unfold Place.val placeOf
  obtain ⟨A0, c0, y0, hc0⟩ := (hw 3 (by omega)).num (hnum 3 (by omega) (by omega))
  have HC0 := Aside0.mk hc0; clear hc0
  obtain ⟨A1, c1, y1, hc1⟩ := (hw 4 (by omega)).num (hnum 4 (by omega) (by omega))
  have HC1 := Aside0.mk hc1; clear hc1
  obtain ⟨A2, c2, y2, hc2⟩ := (hw 5 (by omega)).num (hnum 5 (by omega) (by omega))
  have HC2 := Aside0.mk hc2; clear hc2
  obtain ⟨A3, c3, y3, hc3⟩ := (hw 6 (by omega)).num (hnum 6 (by omega) (by omega))
  have HC3 := Aside0.mk hc3; clear hc3
  obtain ⟨A4, c4, y4, hc4⟩ := (hw 7 (by omega)).num (hnum 7 (by omega) (by omega))
  have HC4 := Aside0.mk hc4; clear hc4
  skip
  rw [show fs.getD (3 + 1) [] = fs.getD 4 [] from rfl]
  rw [show fs.getD (3 + 2) [] = fs.getD 5 [] from rfl]
  rw [show fs.getD (3 + 3) [] = fs.getD 6 [] from rfl]
  rw [show fs.getD (3 + 4) [] = fs.getD 7 [] from rfl]
  generalize fs.getD 3 [] = f0 at y0 HC0 ⊢
  generalize numVal f0 = n0 at HC0 ⊢
  generalize f0.length = l0 at y0 HC0
  generalize fs.getD 4 [] = f1 at y1 HC1 ⊢
  generalize numVal f1 = n1 at HC1 ⊢
  generalize f1.length = l1 at y1 HC1
  generalize fs.getD 5 [] = f2 at y2 HC2 ⊢
  generalize numVal f2 = n2 at HC2 ⊢
  generalize f2.length = l2 at y2 HC2
  generalize fs.getD 6 [] = f3 at y3 HC3 ⊢
  generalize numVal f3 = n3 at HC3 ⊢
  generalize f3.length = l3 at y3 HC3
  generalize fs.getD 7 [] = f4 at y4 HC4 ⊢
  generalize numVal f4 = n4 at HC4 ⊢
  generalize f4.length = l4 at y4 HC4
  clear hw hnum
  have hb0 : 3 < n := by omega
  have hi0 : (3 : Int) < (n : Int) := by omega
  have hb1 : 4 < n := by omega
  have hi1 : (4 : Int) < (n : Int) := by omega
  have hb2 : 5 < n := by omega
  have hi2 : (5 : Int) < (n : Int) := by omega
  have hb3 : 6 < n := by omega
  have hi3 : (6 : Int) < (n : Int) := by omega
  have hb4 : 7 < n := by omega
  have hi4 : (7 : Int) < (n : Int) := by omega
  have q1 : IntKind.i64.wrap 4 = 4 := by decide
  have q2 : IntKind.i64.wrap 5 = 5 := by decide
  have q3 : IntKind.i64.wrap 6 = 6 := by decide
  have q4 : IntKind.i64.wrap 7 = 7 := by decide
  have Hy0 := Aside0.mk y0; clear y0
  have Hy1 := Aside0.mk y1; clear y1
  have Hy2 := Aside0.mk y2; clear y2
  have Hy3 := Aside0.mk y3; clear y3
  have Hy4 := Aside0.mk y4; clear y4
  have HB0 := Aside0.mk (below_alloc (Below.refl w.heap.size w) (.cells #[.int .i64 0, .int .i64 0, .int .i64 0, .int .i64 0, .int .i64 0] 57))
  have h := al_new w (.cells #[.int .i64 0, .int .i64 0, .int .i64 0, .int .i64 0, .int .i64 0] 57)
  have HP0 := Aside0.mk h; clear h
  have HGP := Aside0.mk (show w.heap.size ≤ w.heap.size from Nat.le_add_right _ 0)
  have HZ0 := Aside0.mk (show (w.alloc (.cells #[.int .i64 0, .int .i64 0, .int .i64 0, .int .i64 0, .int .i64 0] 57)).heap.size = w.heap.size + 1 by simp only [al_size])
  have HSZ0 := Aside0.mk (Nat.le_refl (w.alloc (.cells #[.int .i64 0, .int .i64 0, .int .i64 0, .int .i64 0, .int .i64 0] 57)).heap.size)
  go_enter Tryz.func26, Tryz.ntmps26
  go_wp2_with fail
  refine Grow.wp_region_tail 30 (by kernel_rfl) (by kernel_rfl) ?_
  dsimp only [List.take, List.drop]
  repeat ((first | (refine Grow.lexP_do _ (by rfl) (by rfl) (by intro W hj; obtain ⟨p1, p2⟩ := lay (Below.refl _ _) (blk_below HP0.out hj.out); have cHy0 := pw_cell_below (bel_call HB0.out hj.out) Hy0.out; have cHy1 := pw_cell_below (bel_call HB0.out hj.out) Hy1.out; have cHy2 := pw_cell_below (bel_call HB0.out hj.out) Hy2.out; have cHy3 := pw_cell_below (bel_call HB0.out hj.out) Hy3.out; have cHy4 := pw_cell_below (bel_call HB0.out hj.out) Hy4.out; go_simp; first | exact Grow.UponB.val | (have cc := HC0.out W (bel_call HB0.out hj.out); with_reducible exact Grow.UponB.call cc) | (have cc := HC1.out W (bel_call HB0.out hj.out); with_reducible exact Grow.UponB.call cc) | (have cc := HC2.out W (bel_call HB0.out hj.out); with_reducible exact Grow.UponB.call cc) | (have cc := HC3.out W (bel_call HB0.out hj.out); with_reducible exact Grow.UponB.call cc) | (have cc := HC4.out W (bel_call HB0.out hj.out); with_reducible exact Grow.UponB.call cc)) ?_)); refine Grow.lexP_norm (fun K hK => ?_); go_simp; refine hK _ ?_; clear hK K)
  refine Grow.lexP_nil (fun w1 hj => ?_)
  have hb := hj.out; clear hj
  have HB1 := Aside0.mk (bel_call HB0.out hb); have HP1 := Aside0.mk (blk_below HP0.out hb); have HSZ1 := Aside0.mk (Nat.le_trans HSZ0.out hb.size); clear hb
  obtain ⟨p1, p2⟩ := lay (Below.refl _ _) HP1.out
  go_wp2_with ((with_reducible refine gate_store (t := 57) (p := 4) rfl ?_); refine wpList_putAll rfl rfl _ _ _ rfl (g := w.heap.size) [.int .i64 n0, .int .i64 n1, .int .i64 n2, .int .i64 n3, .int .i64 n4] rfl rfl (by kernel_rfl) (List.all_eq_true.1 (show List.all [.int .i64 n0, .int .i64 n1, .int .i64 n2, .int .i64 n3, .int .i64 n4] Value.oneCell' = true from rfl)) HP1.out rfl ?_; intro w2 hX hT hz; clear hz; clear p1 p2; (try simp only [List.setIfInBounds_toArray, List.set_cons_zero, List.set_cons_succ] at hX); have HB2 := Aside0.mk (hT.below w (fun k hk => by rw [hk]; exact HGP.out) HB1.out); have HSZ2 := Aside0.mk (Nat.le_trans HSZ1.out hT.size); have HP2 := Aside0.mk hX; clear hX hT; obtain ⟨p1, p2⟩ := lay (Below.refl _ _) HP2.out)
  clear p1 p2
  refine bodyPost_ret (results_cell Tryz.results26 rfl HP2.out Tryz.underlying57 rfl (by kernel_rfl)) rfl ?_
  exact ⟨rfl, HB2.out⟩
set_option maxRecDepth 100000 in
set_option maxHeartbeats 4000000 in
theorem spec_placeAt8 (B n c : Nat) (fs : List (List Int)) (hw : Words w B fs) (hl : 13 ≤ fs.length) (hn : 13 ≤ n) (hnum : ∀ j, 8 ≤ j → j < 13 → isNum (fs.getD j []) = true) : Calls Tryz.prog 26 #[.slice (some ⟨B, 0, none⟩) n c, .int .i64 8] w fun e w' => e = .returned (placeOf fs 8).val ∧ Below w.heap.size w w' := by
  unfold Place.val placeOf
  obtain ⟨A0, c0, y0, hc0⟩ := (hw 8 (by omega)).num (hnum 8 (by omega) (by omega))
  have HC0 := Aside0.mk hc0; clear hc0
  obtain ⟨A1, c1, y1, hc1⟩ := (hw 9 (by omega)).num (hnum 9 (by omega) (by omega))
  have HC1 := Aside0.mk hc1; clear hc1
  obtain ⟨A2, c2, y2, hc2⟩ := (hw 10 (by omega)).num (hnum 10 (by omega) (by omega))
  have HC2 := Aside0.mk hc2; clear hc2
  obtain ⟨A3, c3, y3, hc3⟩ := (hw 11 (by omega)).num (hnum 11 (by omega) (by omega))
  have HC3 := Aside0.mk hc3; clear hc3
  obtain ⟨A4, c4, y4, hc4⟩ := (hw 12 (by omega)).num (hnum 12 (by omega) (by omega))
  have HC4 := Aside0.mk hc4; clear hc4
  skip
  rw [show fs.getD (8 + 1) [] = fs.getD 9 [] from rfl]
  rw [show fs.getD (8 + 2) [] = fs.getD 10 [] from rfl]
  rw [show fs.getD (8 + 3) [] = fs.getD 11 [] from rfl]
  rw [show fs.getD (8 + 4) [] = fs.getD 12 [] from rfl]
  generalize fs.getD 8 [] = f0 at y0 HC0 ⊢
  generalize numVal f0 = n0 at HC0 ⊢
  generalize f0.length = l0 at y0 HC0
  generalize fs.getD 9 [] = f1 at y1 HC1 ⊢
  generalize numVal f1 = n1 at HC1 ⊢
  generalize f1.length = l1 at y1 HC1
  generalize fs.getD 10 [] = f2 at y2 HC2 ⊢
  generalize numVal f2 = n2 at HC2 ⊢
  generalize f2.length = l2 at y2 HC2
  generalize fs.getD 11 [] = f3 at y3 HC3 ⊢
  generalize numVal f3 = n3 at HC3 ⊢
  generalize f3.length = l3 at y3 HC3
  generalize fs.getD 12 [] = f4 at y4 HC4 ⊢
  generalize numVal f4 = n4 at HC4 ⊢
  generalize f4.length = l4 at y4 HC4
  clear hw hnum
  have hb0 : 8 < n := by omega
  have hi0 : (8 : Int) < (n : Int) := by omega
  have hb1 : 9 < n := by omega
  have hi1 : (9 : Int) < (n : Int) := by omega
  have hb2 : 10 < n := by omega
  have hi2 : (10 : Int) < (n : Int) := by omega
  have hb3 : 11 < n := by omega
  have hi3 : (11 : Int) < (n : Int) := by omega
  have hb4 : 12 < n := by omega
  have hi4 : (12 : Int) < (n : Int) := by omega
  have q1 : IntKind.i64.wrap 9 = 9 := by decide
  have q2 : IntKind.i64.wrap 10 = 10 := by decide
  have q3 : IntKind.i64.wrap 11 = 11 := by decide
  have q4 : IntKind.i64.wrap 12 = 12 := by decide
  have Hy0 := Aside0.mk y0; clear y0
  have Hy1 := Aside0.mk y1; clear y1
  have Hy2 := Aside0.mk y2; clear y2
  have Hy3 := Aside0.mk y3; clear y3
  have Hy4 := Aside0.mk y4; clear y4
  have HB0 := Aside0.mk (below_alloc (Below.refl w.heap.size w) (.cells #[.int .i64 0, .int .i64 0, .int .i64 0, .int .i64 0, .int .i64 0] 57))
  have h := al_new w (.cells #[.int .i64 0, .int .i64 0, .int .i64 0, .int .i64 0, .int .i64 0] 57)
  have HP0 := Aside0.mk h; clear h
  have HGP := Aside0.mk (show w.heap.size ≤ w.heap.size from Nat.le_add_right _ 0)
  have HZ0 := Aside0.mk (show (w.alloc (.cells #[.int .i64 0, .int .i64 0, .int .i64 0, .int .i64 0, .int .i64 0] 57)).heap.size = w.heap.size + 1 by simp only [al_size])
  have HSZ0 := Aside0.mk (Nat.le_refl (w.alloc (.cells #[.int .i64 0, .int .i64 0, .int .i64 0, .int .i64 0, .int .i64 0] 57)).heap.size)
  go_enter Tryz.func26, Tryz.ntmps26
  go_wp2_with fail
  refine Grow.wp_region_tail 30 (by kernel_rfl) (by kernel_rfl) ?_
  dsimp only [List.take, List.drop]
  repeat ((first | (refine Grow.lexP_do _ (by rfl) (by rfl) (by intro W hj; obtain ⟨p1, p2⟩ := lay (Below.refl _ _) (blk_below HP0.out hj.out); have cHy0 := pw_cell_below (bel_call HB0.out hj.out) Hy0.out; have cHy1 := pw_cell_below (bel_call HB0.out hj.out) Hy1.out; have cHy2 := pw_cell_below (bel_call HB0.out hj.out) Hy2.out; have cHy3 := pw_cell_below (bel_call HB0.out hj.out) Hy3.out; have cHy4 := pw_cell_below (bel_call HB0.out hj.out) Hy4.out; go_simp; first | exact Grow.UponB.val | (have cc := HC0.out W (bel_call HB0.out hj.out); with_reducible exact Grow.UponB.call cc) | (have cc := HC1.out W (bel_call HB0.out hj.out); with_reducible exact Grow.UponB.call cc) | (have cc := HC2.out W (bel_call HB0.out hj.out); with_reducible exact Grow.UponB.call cc) | (have cc := HC3.out W (bel_call HB0.out hj.out); with_reducible exact Grow.UponB.call cc) | (have cc := HC4.out W (bel_call HB0.out hj.out); with_reducible exact Grow.UponB.call cc)) ?_)); refine Grow.lexP_norm (fun K hK => ?_); go_simp; refine hK _ ?_; clear hK K)
  refine Grow.lexP_nil (fun w1 hj => ?_)
  have hb := hj.out; clear hj
  have HB1 := Aside0.mk (bel_call HB0.out hb); have HP1 := Aside0.mk (blk_below HP0.out hb); have HSZ1 := Aside0.mk (Nat.le_trans HSZ0.out hb.size); clear hb
  obtain ⟨p1, p2⟩ := lay (Below.refl _ _) HP1.out
  go_wp2_with ((with_reducible refine gate_store (t := 57) (p := 4) rfl ?_); refine wpList_putAll rfl rfl _ _ _ rfl (g := w.heap.size) [.int .i64 n0, .int .i64 n1, .int .i64 n2, .int .i64 n3, .int .i64 n4] rfl rfl (by kernel_rfl) (List.all_eq_true.1 (show List.all [.int .i64 n0, .int .i64 n1, .int .i64 n2, .int .i64 n3, .int .i64 n4] Value.oneCell' = true from rfl)) HP1.out rfl ?_; intro w2 hX hT hz; clear hz; clear p1 p2; (try simp only [List.setIfInBounds_toArray, List.set_cons_zero, List.set_cons_succ] at hX); have HB2 := Aside0.mk (hT.below w (fun k hk => by rw [hk]; exact HGP.out) HB1.out); have HSZ2 := Aside0.mk (Nat.le_trans HSZ1.out hT.size); have HP2 := Aside0.mk hX; clear hX hT; obtain ⟨p1, p2⟩ := lay (Below.refl _ _) HP2.out)
  clear p1 p2
  refine bodyPost_ret (results_cell Tryz.results26 rfl HP2.out Tryz.underlying57 rfl (by kernel_rfl)) rfl ?_
  exact ⟨rfl, HB2.out⟩
end
end Go.Proofs.YtogjkkbhmanbmaaGreatDoor.L1
