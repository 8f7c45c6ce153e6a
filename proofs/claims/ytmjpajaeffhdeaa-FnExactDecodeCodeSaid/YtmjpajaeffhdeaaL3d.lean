/- An instruction is good, as the program tells it. -/
import Derived.Test.YtmjpajaeffhdeaaL3c
namespace Go.Proofs.Ytmjpajaeffhdeaa.L1
open Go.RowKit Go.Proofs.YtmjpajaeffhdeaaW.PrintWords Go.Proofs.Ytmjpajaeffhdeaa.B
set_option linter.unusedVariables false
set_option linter.unusedSimpArgs false
attribute [local go_sem] mk_cell mk_frozen
theorem ints_lit {W : World} {b : Nat} {t : TypeId} (xs : List Int) (h : W.heap[b]? = some (.cells (xs.map (Value.int .i64)).toArray t (0, 0))) (hl : xs.length ≤ 9223372036854775807) (c : Nat) : ReadInts W (.slice (some ⟨b, 0, none⟩) xs.length c) xs := by
  refine ⟨_, _, rfl, rfl, hl, fun _ => ⟨⟨b, 0, none⟩, rfl, fun j p hp => ⟨[.int .i64 p], rfl, rfl, fun i u hu => ?_⟩⟩⟩
  have hi : i = 0 := by
    rcases i with _ | i
    · rfl
    · simp at hu
  subst hi
  simp only [List.getElem?_cons_zero, Option.some.injEq] at hu
  subst hu
  have := blk_cell h j
  rw [List.getElem?_toArray, List.getElem?_map, hp] at this
  simp only [Option.map_some] at this
  have e : (⟨b, 0, none⟩ : Addr).add (j * kInt.sz + 0) = ⟨b, j, none⟩ := by
    rw [show j * kInt.sz + 0 = j from Nat.mul_one j, Addr.add_lit, Nat.zero_add]
  rw [e]; exact this
def named (o a b c : Int) : List Int := if o = 2 ∨ o = 3 ∨ o = 4 then [a, b] else if o = 17 then [] else if o = 19 then [b] else if 5 ≤ o ∧ o ≤ 12 then [a, b, c] else [a]
section
variable (w : World)
set_option maxRecDepth 100000 in
set_option maxHeartbeats 2000000 in
theorem impl_writes (o a b c : Int) : Calls Try.prog 110 #[.agg #[.int .i64 o, .int .i64 a, .int .i64 b, .int .i64 c]] w fun e w' => e = .returned (.bool (decide (o ≤ 14 ∨ o = 20))) ∧ Below w.heap.size w w' := by
  by_cases h1 : o ≤ 14
  · have p0 : decide (o ≤ 14) = true := by simp; omega
    have HL := Aside0.mk (show decide (o ≤ 14 ∨ o = 20) = true by simp; omega); clear h1
    go_enter Try.func110, Try.ntmps110
    go_wp2
    go_ret
    exact ⟨by rw [HL.out]; rfl, below_alloc (Below.refl _ _) _⟩
  have p0 : decide (o ≤ 14) = false := by simp; omega
  by_cases h2 : o = 20
  · subst h2
    clear h1
    go_enter Try.func110, Try.ntmps110
    go_wp2
    go_ret
    exact ⟨rfl, below_alloc (Below.refl _ _) _⟩
  · have p1 : (o == 20) = false := by simp [h2]
    have p2 : decide (o = 20) = false := by simp [h2]
    have HL := Aside0.mk (show decide (o ≤ 14 ∨ o = 20) = false by simp; omega); clear h1 h2
    go_enter Try.func110, Try.ntmps110
    go_wp2
    go_ret
    exact ⟨by rw [HL.out]; rfl, below_alloc (Below.refl _ _) _⟩
set_option maxRecDepth 100000 in
set_option maxHeartbeats 2000000 in
theorem impl_registers (o a b c : Int) : Calls Try.prog 109 #[.agg #[.int .i64 o, .int .i64 a, .int .i64 b, .int .i64 c]] w fun e w' => (∃ u, e = .returned u ∧ ReadInts w' u (named o a b c)) ∧ Below w.heap.size w w' := by
  by_cases e2 : o = 2
  · subst e2
    have HL := Aside0.mk (show named 2 a b c = [a, b] from rfl)
    go_enter Try.func109, Try.ntmps109
    go_wp2
    go_ret
    have h := al_new (w.alloc (.cells #[.int .i64 2, .int .i64 a, .int .i64 b, .int .i64 c] 81)) (.cells #[.int .i64 a, .int .i64 b] 2)
    rw [al_size] at h
    exact ⟨⟨_, rfl, by rw [HL.out]; exact ints_lit [a, b] h (by simp) _⟩, below_alloc (below_alloc (Below.refl _ _) _) _⟩
  by_cases e3 : o = 3
  · subst e3
    have HL := Aside0.mk (show named 3 a b c = [a, b] from rfl)
    clear e2
    go_enter Try.func109, Try.ntmps109
    go_wp2
    go_ret
    have h := al_new (w.alloc (.cells #[.int .i64 3, .int .i64 a, .int .i64 b, .int .i64 c] 81)) (.cells #[.int .i64 a, .int .i64 b] 2)
    rw [al_size] at h
    exact ⟨⟨_, rfl, by rw [HL.out]; exact ints_lit [a, b] h (by simp) _⟩, below_alloc (below_alloc (Below.refl _ _) _) _⟩
  by_cases e4 : o = 4
  · subst e4
    have HL := Aside0.mk (show named 4 a b c = [a, b] from rfl)
    clear e2 e3
    go_enter Try.func109, Try.ntmps109
    go_wp2
    go_ret
    have h := al_new (w.alloc (.cells #[.int .i64 4, .int .i64 a, .int .i64 b, .int .i64 c] 81)) (.cells #[.int .i64 a, .int .i64 b] 2)
    rw [al_size] at h
    exact ⟨⟨_, rfl, by rw [HL.out]; exact ints_lit [a, b] h (by simp) _⟩, below_alloc (below_alloc (Below.refl _ _) _) _⟩
  by_cases e17 : o = 17
  · subst e17
    have HL := Aside0.mk (show named 17 a b c = [] from rfl)
    clear e2 e3 e4
    go_enter Try.func109, Try.ntmps109
    go_wp2
    go_ret
    exact ⟨⟨_, rfl, by rw [HL.out]; exact ⟨none, 0, rfl, rfl, by decide, fun h => absurd h (by decide)⟩⟩, below_alloc (Below.refl _ _) _⟩
  by_cases e19 : o = 19
  · subst e19
    have HL := Aside0.mk (show named 19 a b c = [b] from rfl)
    clear e2 e3 e4 e17
    go_enter Try.func109, Try.ntmps109
    go_wp2
    go_ret
    have h := al_new (w.alloc (.cells #[.int .i64 19, .int .i64 a, .int .i64 b, .int .i64 c] 81)) (.cells #[.int .i64 b] 2)
    rw [al_size] at h
    exact ⟨⟨_, rfl, by rw [HL.out]; exact ints_lit [b] h (by simp) _⟩, below_alloc (below_alloc (Below.refl _ _) _) _⟩
  have f2 : (o == 2) = false := by simp [e2]
  have g2 : decide (o = 2) = false := by simp [e2]
  have f3 : (o == 3) = false := by simp [e3]
  have g3 : decide (o = 3) = false := by simp [e3]
  have f4 : (o == 4) = false := by simp [e4]
  have g4 : decide (o = 4) = false := by simp [e4]
  have f17 : (o == 17) = false := by simp [e17]
  have g17 : decide (o = 17) = false := by simp [e17]
  have f19 : (o == 19) = false := by simp [e19]
  have g19 : decide (o = 19) = false := by simp [e19]
  by_cases h1 : 5 ≤ o ∧ o ≤ 12
  · have p0 : decide (5 ≤ o) = true := by simp; omega
    have p1 : decide (o ≤ 12) = true := by simp; omega
    have HL := Aside0.mk (show named o a b c = [a, b, c] by unfold named; simp [e2, e3, e4, e17, e19, h1])
    clear h1 e2 e3 e4 e17 e19
    go_enter Try.func109, Try.ntmps109
    go_wp2
    go_ret
    have h := al_new (w.alloc (.cells #[.int .i64 o, .int .i64 a, .int .i64 b, .int .i64 c] 81)) (.cells #[.int .i64 a, .int .i64 b, .int .i64 c] 2)
    rw [al_size] at h
    exact ⟨⟨_, rfl, by rw [HL.out]; exact ints_lit [a, b, c] h (by simp) _⟩, below_alloc (below_alloc (Below.refl _ _) _) _⟩
  · have HL := Aside0.mk (show named o a b c = [a] by unfold named; simp [e2, e3, e4, e17, e19, h1])
    rcases Int.lt_or_le o 5 with h5 | h5
    · have p0 : decide (5 ≤ o) = false := by simp; omega
      clear h1 h5 e2 e3 e4 e17 e19
      go_enter Try.func109, Try.ntmps109
      go_wp2
      go_ret
      have h := al_new (w.alloc (.cells #[.int .i64 o, .int .i64 a, .int .i64 b, .int .i64 c] 81)) (.cells #[.int .i64 a] 2)
      rw [al_size] at h
      exact ⟨⟨_, rfl, by rw [HL.out]; exact ints_lit [a] h (by simp) _⟩, below_alloc (below_alloc (Below.refl _ _) _) _⟩
    · have p0 : decide (5 ≤ o) = true := by simp; omega
      have p1 : decide (o ≤ 12) = false := by simp; omega
      clear h1 h5 e2 e3 e4 e17 e19
      go_enter Try.func109, Try.ntmps109
      go_wp2
      go_ret
      have h := al_new (w.alloc (.cells #[.int .i64 o, .int .i64 a, .int .i64 b, .int .i64 c] 81)) (.cells #[.int .i64 a] 2)
      rw [al_size] at h
      exact ⟨⟨_, rfl, by rw [HL.out]; exact ints_lit [a] h (by simp) _⟩, below_alloc (below_alloc (Below.refl _ _) _) _⟩
end
end Go.Proofs.Ytmjpajaeffhdeaa.L1
