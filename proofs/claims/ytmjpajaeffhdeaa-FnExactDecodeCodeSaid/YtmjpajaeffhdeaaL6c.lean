/- Code out of numbers, as the reference tells it. -/
import Derived.Test.YtmjpajaeffhdeaaL6b
namespace Go.Proofs.Ytmjpajaeffhdeaa.L1
open Go.RowKit Go.Proofs.YtmjpajaeffhdeaaW.PrintWords Go.Proofs.YtmjpajaeffhdeaaW.PrintLast Go.Proofs.Ytmjpajaeffhdeaa.B
set_option linter.unusedVariables false
set_option linter.unusedSimpArgs false
attribute [local go_sem] mk_cell mk_frozen
def insAt (ns : List Int) (i : Nat) : Ins := ⟨ns.getD i 0, ns.getD (i + 1) 0, ns.getD (i + 2) 0, ns.getD (i + 3) 0⟩
def rowsOf (ns : List Int) (m : Nat) : List Ins := (List.range m).map fun k => insAt ns (4 * k)
theorem rowsOf_succ (ns : List Int) (m : Nat) : rowsOf ns (m + 1) = rowsOf ns m ++ [insAt ns (4 * m)] := by simp [rowsOf, List.range_succ]
theorem rowsOf_len (ns : List Int) (m : Nat) : (rowsOf ns m).length = m := by simp [rowsOf]
theorem add_succ (ad : Addr) (j : Nat) (h : 0 < j) : ad.add j = ⟨ad.block, ad.off + j, none⟩ := by unfold Addr.add; split <;> simp_all <;> omega
section
variable (w : World)
theorem spec_l3I (o a b c : Int) : Calls Try.prog 113 #[.int .i64 o, .int .i64 a, .int .i64 b, .int .i64 c] w fun e w' => e = .returned (.agg #[.int .i64 o, .int .i64 a, .int .i64 b, .int .i64 c]) ∧ Below w.heap.size w w' := by
  go_enter Try.func113, Try.ntmps113
  go_wp2
  refine bodyPost_ret (v := .agg #[.int .i64 o, .int .i64 a, .int .i64 b, .int .i64 c]) (by simp [results, Try.results113, go_sem]) rfl ⟨rfl, ?_⟩
  exact by with_reducible repeat (first | refine bel_set ?_ (by omega) _ | refine below_alloc ?_ _ | exact Below.refl _ _)
set_option maxRecDepth 100000 in
set_option maxHeartbeats 4000000 in
theorem spec_block (A : Option Addr) (c m : Nat) (ns : List Int) (hr : kInt.C w A ns.length ns) (hm : ns.length = 4 * m) (hl : m ≤ 1000000) :
    Calls Try.prog 67 #[.slice A ns.length c] w fun e w' => ∃ v, e = .returned v ∧ kIns.R 81 w' w.heap.size (fun _ => True) v (rowsOf ns m) ∧ Below w.heap.size w w' := by
  have HR := Aside0.mk hr; clear hr
  have HL0 := Aside0.mk (flat_lit (d := kIns) rfl w w.heap.size 81 [] (Nat.le_refl _) (by simp))
  have HB0 := Aside0.mk (below_alloc (Below.refl w.heap.size w) (.cells #[] 81))
  have HM := Aside0.mk hm; clear hm
  go_enter Try.func67, Try.ntmps67
  go_wp2_with fail
  go_loopg [3, 4] (m + 1) (fun q v3 v4 wr => ∃ k : Nat, q = m + 1 - k ∧ k ≤ m ∧ v4 = .int .i64 ((4 * k : Nat) : Int) ∧ Aside0 (kIns.R 81 wr w.heap.size (fun _ => True) v3 (rowsOf ns k)) ∧ Aside0 (Below w.heap.size w wr))
  case atStart => exact ⟨0, by omega, by omega, rfl, HL0, HB0⟩
  case round =>
    obtain ⟨k, rfl, hk, rfl, HO, HB⟩ := hrel
    clear HL0 HB0
    by_cases hlt : k < m
    · have HU := Aside0.mk (rowsOf_succ ns k)
      have HOL := Aside0.mk (show (rowsOf ns k).length ≤ 1000000 by rw [rowsOf_len]; omega)
      have hin : ∀ t, t < 4 → 4 * k + t < ns.length := fun t ht => by have := HM.out; omega
      have hcell : ∀ t, t < 4 → ∃ ad, A = some ad ∧ wr.cell? (ad.add (4 * k + t)) = some (.int .i64 (ns.getD (4 * k + t) 0)) := fun t ht => by
        obtain ⟨ad, e0, t0, _⟩ := Kd.flat_cells (d := kInt) rfl (Kd.C_below HR.out HB.out) 0 (4 * k + t) (hin t ht)
        have := t0 _ rfl; simp only [Nat.mul_one] at this
        exact ⟨ad, e0, this⟩
      obtain ⟨ad, rfl, z0⟩ := hcell 0 (by omega)
      obtain ⟨_, e1, z1⟩ := hcell 1 (by omega); cases e1
      obtain ⟨_, e1, z2⟩ := hcell 2 (by omega); cases e1
      obtain ⟨_, e1, z3⟩ := hcell 3 (by omega); cases e1
      have HIN := Aside0.mk (hin 3 (by omega)); clear hcell hin
      unfold insAt at HU
      rw [Nat.add_zero] at z0
      generalize rowsOf ns k = out at HO HU HOL
      obtain ⟨i, hi⟩ : ∃ i, i = 4 * k := ⟨_, rfl⟩
      rw [← hi] at z0 z1 z2 z3 HU
      rw [← hi]
      have HI := Aside0.mk hi; clear hi
      generalize ns.getD i 0 = y0 at z0 HU
      generalize ns.getD (i + 1) 0 = y1 at z1 HU
      generalize ns.getD (i + 2) 0 = y2 at z2 HU
      generalize ns.getD (i + 3) 0 = y3 at z3 HU
      obtain ⟨A', c', rfl⟩ := Kd.R_slice HO.out
      have hil : (i : Int) + 3 < (ns.length : Int) := by have := HIN.out; have := HI.out; omega
      have hil2 : (i : Int) + 4 ≤ (ns.length : Int) := by omega
      have hnl : ns.length ≤ 4000000 := by have := HM.out; omega
      have hi0 : i < ns.length := by omega
      have hi1 : (i : Int) + 1 < (ns.length : Int) := by omega
      have hi2 : (i : Int) + 2 < (ns.length : Int) := by omega
      have w1 : wrap64 ((i : Int) + 1) = (i : Int) + 1 := by rw [← i64_wrap, IntWalk.i64_in _ (by omega)]
      have w2 : wrap64 ((i : Int) + 2) = (i : Int) + 2 := by rw [← i64_wrap, IntWalk.i64_in _ (by omega)]
      have w3 : wrap64 ((i : Int) + 3) = (i : Int) + 3 := by rw [← i64_wrap, IntWalk.i64_in _ (by omega)]
      have g1 : (0 : Int) ≤ (i : Int) + 1 := by omega
      have g2 : (0 : Int) ≤ (i : Int) + 2 := by omega
      have g3 : (0 : Int) ≤ (i : Int) + 3 := by omega
      have n1 : ((i : Int) + 1).toNat = i + 1 := by omega
      have n2 : ((i : Int) + 2).toNat = i + 2 := by omega
      have n3 : ((i : Int) + 3).toNat = i + 3 := by omega
      have zz1 : wr.cell? ⟨ad.block, ad.off + (i + 1), none⟩ = some (.int .i64 y1) := by rw [← add_succ ad (i + 1) (by omega)]; exact z1
      have zz2 : wr.cell? ⟨ad.block, ad.off + (i + 1 + 1), none⟩ = some (.int .i64 y2) := by rw [← add_succ ad (i + 1 + 1) (by omega)]; exact z2
      have zz3 : wr.cell? ⟨ad.block, ad.off + (i + 1 + 1 + 1), none⟩ = some (.int .i64 y3) := by rw [← add_succ ad (i + 1 + 1 + 1) (by omega)]; exact z3
      go_wp2_with fail
      -- REGION5
      refine start_ (n := 24) (S := fun w' => w'.cell? (ad.add i) = some (.int .i64 y0) ∧ w'.cell? ⟨ad.block, ad.off + (i + 1), none⟩ = some (.int .i64 y1) ∧ w'.cell? ⟨ad.block, ad.off + (i + 1 + 1), none⟩ = some (.int .i64 y2) ∧ w'.cell? ⟨ad.block, ad.off + (i + 1 + 1 + 1), none⟩ = some (.int .i64 y3)) (ds := [22]) #[false, false, false, false, false, false, false, false, false, false, false, false, false, false, false, false, false, false, false, false, false, false, false, false] (by kernel_rfl) rfl rfl ⟨pw_cell_below (below_drew (Below.refl _ _)) z0, pw_cell_below (below_drew (Below.refl _ _)) zz1, pw_cell_below (below_drew (Below.refl _ _)) zz2, pw_cell_below (below_drew (Below.refl _ _)) zz3⟩ (fun hHeld => ?_)
      refine pure_ (i := 0) (N := some 13) (v := ?_) (a' := ?_) #[true, false, false, false, false, false, false, false, false, false, false, false, false, false, false, false, false, false, false, false, false, false, false, false] rfl rfl (by kernel_rfl) (fun _ _ _ h => h) (Or.inl ⟨by rfl, ?_⟩) ?_ ?_
      rotate_left
      · intro w'
        go_simp
        with_reducible rfl
      rotate_left
      · simp only [Act.put, List.setIfInBounds_toArray, List.set_cons_zero, List.set_cons_succ, i64_w, i32_w]
        rfl
      refine pure_ (i := 1) (N := some 14) (v := ?_) (a' := ?_) #[true, true, false, false, false, false, false, false, false, false, false, false, false, false, false, false, false, false, false, false, false, false, false, false] rfl rfl (by kernel_rfl) (fun _ _ _ h => h) (Or.inl ⟨by rfl, ?_⟩) ?_ ?_
      rotate_left
      · intro w'
        go_simp
        with_reducible rfl
      rotate_left
      · simp only [Act.put, List.setIfInBounds_toArray, List.set_cons_zero, List.set_cons_succ, i64_w, i32_w]
        rfl
      refine pure_ (i := 2) (N := some 15) (v := ?_) (a' := ?_) #[true, true, true, false, false, false, false, false, false, false, false, false, false, false, false, false, false, false, false, false, false, false, false, false] rfl rfl (by kernel_rfl) (fun _ _ _ h => h) (Or.inl ⟨by rfl, ?_⟩) ?_ ?_
      rotate_left
      · intro w'
        go_simp
        with_reducible rfl
      rotate_left
      · simp only [Act.put, List.setIfInBounds_toArray, List.set_cons_zero, List.set_cons_succ, i64_w, i32_w]
        rfl
      refine pure_ (i := 3) (N := some 16) (v := ?_) (a' := ?_) #[true, true, true, true, false, false, false, false, false, false, false, false, false, false, false, false, false, false, false, false, false, false, false, false] rfl rfl (by kernel_rfl) (fun _ _ _ h => h) (Or.inl ⟨by rfl, ?_⟩) ?_ ?_
      rotate_left
      · intro w'
        go_simp
        with_reducible rfl
      rotate_left
      · simp only [Act.put, List.setIfInBounds_toArray, List.set_cons_zero, List.set_cons_succ, i64_w, i32_w]
        rfl
      refine pure_ (i := 5) (N := some 18) (v := ?_) (a' := ?_) #[true, true, true, true, false, true, false, false, false, false, false, false, false, false, false, false, false, false, false, false, false, false, false, false] rfl rfl (by kernel_rfl) (fun _ _ _ h => h) (Or.inl ⟨by rfl, ?_⟩) ?_ ?_
      rotate_left
      · intro w'
        go_simp
        with_reducible rfl
      rotate_left
      · simp only [Act.put, List.setIfInBounds_toArray, List.set_cons_zero, List.set_cons_succ, i64_w, i32_w]
        rfl
      refine pure_ (i := 6) (N := some 19) (v := ?_) (a' := ?_) #[true, true, true, true, false, true, true, false, false, false, false, false, false, false, false, false, false, false, false, false, false, false, false, false] rfl rfl (by kernel_rfl) (fun _ _ _ h => h) (Or.inl ⟨by rfl, ?_⟩) ?_ ?_
      rotate_left
      · intro w'
        go_simp
        with_reducible rfl
      rotate_left
      · simp only [Act.put, List.setIfInBounds_toArray, List.set_cons_zero, List.set_cons_succ, i64_w, i32_w]
        rfl
      refine pure_ (i := 7) (N := some 20) (v := ?_) (a' := ?_) #[true, true, true, true, false, true, true, true, false, false, false, false, false, false, false, false, false, false, false, false, false, false, false, false] rfl rfl (by kernel_rfl) (fun _ _ _ h => h) (Or.inl ⟨by rfl, ?_⟩) ?_ ?_
      rotate_left
      · intro w'
        go_simp
        with_reducible rfl
      rotate_left
      · simp only [Act.put, List.setIfInBounds_toArray, List.set_cons_zero, List.set_cons_succ, i64_w, i32_w]
        rfl
      refine pure_ (i := 8) (N := some 21) (v := ?_) (a' := ?_) #[true, true, true, true, false, true, true, true, true, false, false, false, false, false, false, false, false, false, false, false, false, false, false, false] rfl rfl (by kernel_rfl) (fun _ _ _ h => h) (Or.inl ⟨by rfl, ?_⟩) ?_ ?_
      rotate_left
      · intro w'
        go_simp
        with_reducible rfl
      rotate_left
      · simp only [Act.put, List.setIfInBounds_toArray, List.set_cons_zero, List.set_cons_succ, i64_w, i32_w]
        rfl
      refine pure_ (i := 10) (N := some 23) (v := ?_) (a' := ?_) #[true, true, true, true, false, true, true, true, true, false, true, false, false, false, false, false, false, false, false, false, false, false, false, false] rfl rfl (by kernel_rfl) (fun _ _ _ h => h) (Or.inl ⟨by rfl, ?_⟩) ?_ ?_
      rotate_left
      · intro w'
        go_simp
        with_reducible rfl
      rotate_left
      · simp only [Act.put, List.setIfInBounds_toArray, List.set_cons_zero, List.set_cons_succ, i64_w, i32_w]
        rfl
      refine pure_ (i := 11) (N := some 24) (v := ?_) (a' := ?_) #[true, true, true, true, false, true, true, true, true, false, true, true, false, false, false, false, false, false, false, false, false, false, false, false] rfl rfl (by kernel_rfl) (fun _ _ _ h => h) (Or.inl ⟨by rfl, ?_⟩) ?_ ?_
      rotate_left
      · intro w'
        go_simp
        with_reducible rfl
      rotate_left
      · simp only [Act.put, List.setIfInBounds_toArray, List.set_cons_zero, List.set_cons_succ, i64_w, i32_w]
        rfl
      refine pure_ (i := 12) (N := some 25) (v := ?_) (a' := ?_) #[true, true, true, true, false, true, true, true, true, false, true, true, true, false, false, false, false, false, false, false, false, false, false, false] rfl rfl (by kernel_rfl) (fun _ _ _ h => h) (Or.inl ⟨by rfl, ?_⟩) ?_ ?_
      rotate_left
      · intro w'
        go_simp
        with_reducible rfl
      rotate_left
      · simp only [Act.put, List.setIfInBounds_toArray, List.set_cons_zero, List.set_cons_succ, i64_w, i32_w]
        rfl
      refine pure_ (i := 13) (N := some 26) (v := ?_) (a' := ?_) #[true, true, true, true, false, true, true, true, true, false, true, true, true, true, false, false, false, false, false, false, false, false, false, false] rfl rfl (by kernel_rfl) (fun _ _ _ h => h) (Or.inl ⟨by rfl, ?_⟩) ?_ ?_
      rotate_left
      · intro w'
        go_simp
        with_reducible rfl
      rotate_left
      · simp only [Act.put, List.setIfInBounds_toArray, List.set_cons_zero, List.set_cons_succ, i64_w, i32_w]
        rfl
      refine pure_ (i := 15) (N := some 28) (v := ?_) (a' := ?_) #[true, true, true, true, false, true, true, true, true, false, true, true, true, true, false, true, false, false, false, false, false, false, false, false] rfl rfl (by kernel_rfl) (fun _ _ _ h => h) (Or.inl ⟨by rfl, ?_⟩) ?_ ?_
      rotate_left
      · intro w'
        go_simp
        with_reducible rfl
      rotate_left
      · simp only [Act.put, List.setIfInBounds_toArray, List.set_cons_zero, List.set_cons_succ, i64_w, i32_w]
        rfl
      refine pure_ (i := 16) (N := some 29) (v := ?_) (a' := ?_) #[true, true, true, true, false, true, true, true, true, false, true, true, true, true, false, true, true, false, false, false, false, false, false, false] rfl rfl (by kernel_rfl) (fun _ _ _ h => h) (Or.inl ⟨by rfl, ?_⟩) ?_ ?_
      rotate_left
      · intro w'
        go_simp
        with_reducible rfl
      rotate_left
      · simp only [Act.put, List.setIfInBounds_toArray, List.set_cons_zero, List.set_cons_succ, i64_w, i32_w]
        rfl
      refine pure_ (i := 17) (N := some 30) (v := ?_) (a' := ?_) #[true, true, true, true, false, true, true, true, true, false, true, true, true, true, false, true, true, true, false, false, false, false, false, false] rfl rfl (by kernel_rfl) (fun _ _ _ h => h) (Or.inl ⟨by rfl, ?_⟩) ?_ ?_
      rotate_left
      · intro w'
        go_simp
        with_reducible rfl
      rotate_left
      · simp only [Act.put, List.setIfInBounds_toArray, List.set_cons_zero, List.set_cons_succ, i64_w, i32_w]
        rfl
      refine pure_ (i := 18) (N := some 31) (v := ?_) (a' := ?_) #[true, true, true, true, false, true, true, true, true, false, true, true, true, true, false, true, true, true, true, false, false, false, false, false] rfl rfl (by kernel_rfl) (fun _ _ _ h => h) (Or.inl ⟨by rfl, ?_⟩) ?_ ?_
      rotate_left
      · intro w'
        go_simp
        with_reducible rfl
      rotate_left
      · simp only [Act.put, List.setIfInBounds_toArray, List.set_cons_zero, List.set_cons_succ, i64_w, i32_w]
        rfl
      refine take_ (i := 4) (N := some 17) (v := ?_) (a' := ?_) #[true, true, true, true, true, true, true, true, true, false, true, true, true, true, false, true, true, true, true, false, false, false, false, false] rfl rfl (by kernel_rfl) (fun _ _ _ h => h) (Or.inl ⟨by rfl, ?_⟩) hHeld ?_ ?_
      rotate_left
      · rintro w' ⟨s0, s1, s2, s3⟩
        go_simp
        with_reducible rfl
      rotate_left
      · simp only [Act.put, List.setIfInBounds_toArray, List.set_cons_zero, List.set_cons_succ, i64_w, i32_w]
        rfl
      refine take_ (i := 9) (N := some 22) (v := ?_) (a' := ?_) #[true, true, true, true, true, true, true, true, true, true, true, true, true, true, false, true, true, true, true, false, false, false, false, false] rfl rfl (by kernel_rfl) (fun _ _ _ h => h) (Or.inl ⟨by rfl, ?_⟩) hHeld ?_ ?_
      rotate_left
      · rintro w' ⟨s0, s1, s2, s3⟩
        go_simp
        with_reducible rfl
      rotate_left
      · simp only [Act.put, List.setIfInBounds_toArray, List.set_cons_zero, List.set_cons_succ, i64_w, i32_w]
        rfl
      refine take_ (i := 14) (N := some 27) (v := ?_) (a' := ?_) #[true, true, true, true, true, true, true, true, true, true, true, true, true, true, true, true, true, true, true, false, false, false, false, false] rfl rfl (by kernel_rfl) (fun _ _ _ h => h) (Or.inl ⟨by rfl, ?_⟩) hHeld ?_ ?_
      rotate_left
      · rintro w' ⟨s0, s1, s2, s3⟩
        go_simp
        with_reducible rfl
      rotate_left
      · simp only [Act.put, List.setIfInBounds_toArray, List.set_cons_zero, List.set_cons_succ, i64_w, i32_w]
        rfl
      refine take_ (i := 19) (N := some 32) (v := ?_) (a' := ?_) #[true, true, true, true, true, true, true, true, true, true, true, true, true, true, true, true, true, true, true, true, false, false, false, false] rfl rfl (by kernel_rfl) (fun _ _ _ h => h) (Or.inl ⟨by rfl, ?_⟩) hHeld ?_ ?_
      rotate_left
      · rintro w' ⟨s0, s1, s2, s3⟩
        go_simp
        with_reducible rfl
      rotate_left
      · simp only [Act.put, List.setIfInBounds_toArray, List.set_cons_zero, List.set_cons_succ, i64_w, i32_w]
        rfl
      refine one_ (i := 20) (N := some 33) #[true, true, true, true, true, true, true, true, true, true, true, true, true, true, true, true, true, true, true, true, true, false, false, false] rfl rfl (by kernel_rfl) (by decide) (fun K hK => ?_)
      refine goes_ Try.func113 (by kernel_rfl) rfl #[.int .i64 y0, .int .i64 y1, .int .i64 y2, .int .i64 y3] (by rfl) rfl rfl (by simp only [List.map_toArray, List.map_cons, List.map_nil]; rfl) ?_
      with_reducible refine (spec_l3I _ y0 y1 y2 y3).mono ?_
      rintro e w3 ⟨rfl, hb3⟩
      refine ⟨_, rfl, ?_⟩
      refine hK.out _ _ ⟨pw_cell_below hb3 hHeld.1, pw_cell_below hb3 hHeld.2.1, pw_cell_below hb3 hHeld.2.2.1, pw_cell_below hb3 hHeld.2.2.2⟩ (fun hHeld => ?_)
      clear hK K
      refine norm_ (a' := ?_) ?_ ?_
      rotate_left
      · show Act.put _ (some 33) _ = _
        simp only [Act.put, List.setIfInBounds_toArray, List.set_cons_zero, List.set_cons_succ, i64_w, i32_w]
        rfl
      refine one_ (i := 21) (N := some 34) #[true, true, true, true, true, true, true, true, true, true, true, true, true, true, true, true, true, true, true, true, true, true, false, false] rfl rfl (by kernel_rfl) (by decide) (fun K hK => ?_)
      refine value_ (w1 := ?_) (v := ?_) (by rfl) rfl ?_ ?_
      rotate_left 2
      · go_simp
        constructor
        · rfl
        · rfl
      refine hK.out _ _ ⟨pw_cell_below (below_alloc (Below.refl _ _) (.cells #[.int .i64 y0, .int .i64 y1, .int .i64 y2, .int .i64 y3] 81)) hHeld.1, pw_cell_below (below_alloc (Below.refl _ _) (.cells #[.int .i64 y0, .int .i64 y1, .int .i64 y2, .int .i64 y3] 81)) hHeld.2.1, pw_cell_below (below_alloc (Below.refl _ _) (.cells #[.int .i64 y0, .int .i64 y1, .int .i64 y2, .int .i64 y3] 81)) hHeld.2.2.1, pw_cell_below (below_alloc (Below.refl _ _) (.cells #[.int .i64 y0, .int .i64 y1, .int .i64 y2, .int .i64 y3] 81)) hHeld.2.2.2⟩ (fun hHeld => ?_)
      clear hK K
      refine norm_ (a' := ?_) ?_ ?_
      rotate_left
      · show Act.put _ (some 34) _ = _
        simp only [Act.put, List.setIfInBounds_toArray, List.set_cons_zero, List.set_cons_succ, i64_w, i32_w]
        rfl
      refine last_ (i := 22) (N := some 35) #[true, true, true, true, true, true, true, true, true, true, true, true, true, true, true, true, true, true, true, true, true, true, true, false] rfl rfl (by kernel_rfl) (by decide) (fun K hK => ?_)
      refine Kd.flat_append_step kIns rfl (w0 := w) w.heap.size (by rfl) rfl _ _ 30 81 zIns 32 rfl Try.underlying30 (by kernel_rfl) (by decide) (by decide) _ out [⟨y0, y1, y2, y3⟩] _ _ _ rfl rfl (Kd.R_alloc (Kd.R_below (Kd.R_drew HO.out) hb3) (.cells #[.int .i64 y0, .int .i64 y1, .int .i64 y2, .int .i64 y3] 81)) (Kd.R_reads' (flat_lit (d := kIns) rfl w3 w.heap.size 81 [⟨y0, y1, y2, y3⟩] (bel_call (below_drew HB.out) hb3).size (by simp))).2.2 (below_alloc (bel_call (below_drew HB.out) hb3) (.cells #[.int .i64 y0, .int .i64 y1, .int .i64 y2, .int .i64 y3] 81)) (below_alloc (bel_call (below_drew HB.out) hb3) (.cells #[.int .i64 y0, .int .i64 y1, .int .i64 y2, .int .i64 y3] 81)).size (by have := HOL.out; show (_ + 1) * 32 ≤ _; omega) ?_
      intro v2 w2 hr2 hb2 hg2 _
      have HR2 := Aside0.mk hr2; have HB2 := Aside0.mk hb2; clear hr2 hb2 hg2
      refine hK.out _ _ ?_
      clear hK K
      refine norm_ (a' := ?_) ?_ ?_
      rotate_left
      · show Act.put _ (some 35) _ = _
        simp only [Act.put, List.setIfInBounds_toArray, List.set_cons_zero, List.set_cons_succ, i64_w, i32_w]
        rfl
      refine pure_ (i := 23) (N := some 3) (v := ?_) (a' := ?_) #[true, true, true, true, true, true, true, true, true, true, true, true, true, true, true, true, true, true, true, true, true, true, true, true] rfl rfl (by kernel_rfl) (fun _ _ _ h => h) (Or.inl ⟨by rfl, ?_⟩) ?_ ?_
      rotate_left
      · intro w'
        go_simp
        with_reducible rfl
      rotate_left
      · simp only [Act.put, List.setIfInBounds_toArray, List.set_cons_zero, List.set_cons_succ, i64_w, i32_w]
        rfl
      refine done_ (by kernel_rfl) ?_
      -- END5
      go_wp2
      go_roundg (m + 1 - (k + 1))
      case measure => omega
      case rel => exact ⟨k + 1, rfl, hlt, by show Value.int .i64 _ = Value.int .i64 _; congr 1; have := HI.out; omega, ⟨by rw [HU.out]; exact HR2.out⟩, HB2⟩
    · have hkm : k = m := by omega
      subst hkm
      have hnl : ns.length ≤ 4000000 := by have := HM.out; omega
      have hex : ¬ (4 * (k : Int) + 4 ≤ (ns.length : Int)) := by have := HM.out; omega
      go_wp2
      go_ret
      exact ⟨_, rfl, HO.out, HB.out⟩
end
end Go.Proofs.Ytmjpajaeffhdeaa.L1
