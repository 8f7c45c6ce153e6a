/- Numbers out of bytes: plain law. -/
import Derived.Test.YtmjpajaeffhdeaaL5e
namespace Go.Proofs.Ytmjpajaeffhdeaa.L1
set_option linter.unusedVariables false
set_option linter.unusedSimpArgs false
def unzig (z : Nat) : Int := if z % 2 = 0 then ((z / 2 : Nat) : Int) else -(((z + 1) / 2 : Nat) : Int)
def val : List Int → Nat
  | [] => 0
  | b :: t => (b % 128).toNat + 128 * val t
def lead : List Int → Nat
  | [] => 0
  | b :: t => if 128 ≤ b then lead t + 1 else 0
theorem lead_le : ∀ bs : List Int, lead bs ≤ bs.length
  | [] => Nat.le_refl _
  | b :: t => by
    have := lead_le t
    unfold lead; split <;> simp <;> omega
def one (bs : List Int) : Option (Int × List Int) :=
  if lead bs = bs.length then none else if 5 ≤ lead bs then none else if 0 < lead bs ∧ bs.getD (lead bs) 0 = 0 then none
  else some (unzig (val (bs.take (lead bs + 1))), bs.drop (lead bs + 1))
theorem one_lt {bs rest : List Int} {n : Int} (h : one bs = some (n, rest)) : rest.length < bs.length := by
  unfold one at h
  have := lead_le bs
  (repeat' split at h) <;> simp at h
  obtain ⟨_, rfl⟩ := h
  rw [List.length_drop]; omega
def parse (bs : List Int) : Option (List Int) :=
  if bs = [] then some [] else match _h : one bs with
    | none => none
    | some (n, rest) => (parse rest).map (n :: ·)
termination_by bs.length
decreasing_by exact one_lt _h
theorem parse_nil : parse [] = some [] := by rw [parse]; rfl
theorem parse_none {bs : List Int} (h0 : bs ≠ []) (h : one bs = none) : parse bs = none := by
  rw [parse, if_neg h0]
  split
  · rfl
  · rename_i h2; rw [h] at h2; cases h2
theorem parse_some {bs rest : List Int} {n : Int} (h : one bs = some (n, rest)) : parse bs = (parse rest).map (n :: ·) := by
  have h0 : bs ≠ [] := by intro e; have := one_lt h; rw [e] at this; simp at this
  rw [parse, if_neg h0]
  split
  · rename_i h2; rw [h] at h2; cases h2
  · rename_i n' r' h2; rw [h] at h2; cases h2; rfl
theorem one_nil : one [] = none := rfl
def takeN : Nat → List Int → Option (List Int × List Int)
  | 0, bs => some ([], bs)
  | k + 1, bs => match one bs with
    | none => none
    | some (n, rest) => match takeN k rest with
      | none => none
      | some (xs, r) => some (n :: xs, r)
theorem takeN_some : ∀ (k : Nat) (bs xs r : List Int), takeN k bs = some (xs, r) → xs.length = k ∧ parse bs = (parse r).map (xs ++ ·)
  | 0, bs, xs, r, h => by
    simp only [takeN, Option.some.injEq, Prod.mk.injEq] at h
    obtain ⟨rfl, rfl⟩ := h
    exact ⟨rfl, by cases parse bs <;> rfl⟩
  | k + 1, bs, xs, r, h => by
    unfold takeN at h
    split at h
    · cases h
    · rename_i n rest h1
      split at h
      · cases h
      · rename_i ys r' h2
        simp only [Option.some.injEq, Prod.mk.injEq] at h
        obtain ⟨rfl, rfl⟩ := h
        obtain ⟨e1, e2⟩ := takeN_some k rest ys r' h2
        refine ⟨by simp [e1], ?_⟩
        rw [parse_some h1, e2]
        cases parse r' <;> rfl
theorem takeN_none : ∀ (k : Nat) (bs : List Int), takeN k bs = none → ∀ ns, parse bs = some ns → ns.length < k
  | 0, bs, h => by simp [takeN] at h
  | k + 1, bs, h => fun ns hp => by
    unfold takeN at h
    split at h
    · rename_i h1
      by_cases h0 : bs = []
      · subst h0; rw [parse_nil] at hp; cases hp; simp
      · rw [parse_none h0 h1] at hp; cases hp
    · rename_i n rest h1
      split at h
      · rename_i h2
        rw [parse_some h1] at hp
        cases hr : parse rest with
        | none => rw [hr] at hp; cases hp
        | some ms =>
          rw [hr] at hp; cases hp
          have := takeN_none k rest h2 ms hr
          simp; omega
      · cases h
theorem takeN_snoc : ∀ (k : Nat) (bs : List Int), takeN (k + 1) bs = match takeN k bs with
    | none => none
    | some (xs, r) => match one r with
      | none => none
      | some (n, r') => some (xs ++ [n], r')
  | 0, bs => by
    show takeN 1 bs = (match one bs with | none => none | some (n, r') => some ([] ++ [n], r'))
    simp only [takeN]
    cases one bs <;> rfl
  | k + 1, bs => by
    rw [show takeN (k + 1 + 1) bs = (match one bs with | none => none | some (n, rest) => match takeN (k + 1) rest with | none => none | some (xs, r) => some (n :: xs, r)) from rfl]
    rw [show takeN (k + 1) bs = (match one bs with | none => none | some (n, rest) => match takeN k rest with | none => none | some (xs, r) => some (n :: xs, r)) from rfl]
    cases one bs with
    | none => rfl
    | some p =>
      obtain ⟨n, rest⟩ := p
      simp only
      rw [takeN_snoc k rest]
      cases takeN k rest with
      | none => rfl
      | some q =>
        obtain ⟨ys, r⟩ := q
        simp only
        cases one r with
        | none => rfl
        | some q2 => rfl

theorem val_snoc : ∀ (l : List Int) (b : Int), val (l ++ [b]) = val l + (b % 128).toNat * 128 ^ l.length
  | [], b => by simp [val]
  | a :: t, b => by
    rw [List.cons_append, val, val, val_snoc t b, List.length_cons, Nat.pow_succ, Nat.mul_add]
    have : 128 * ((b % 128).toNat * 128 ^ t.length) = (b % 128).toNat * (128 ^ t.length * 128) := by
      rw [Nat.mul_left_comm, Nat.mul_comm 128]
    omega
theorem val_lt : ∀ (l : List Int), val l < 128 ^ l.length
  | [] => by simp [val]
  | a :: t => by
    have := val_lt t
    rw [val, List.length_cons, Nat.pow_succ]
    omega
theorem lead_ge : ∀ (bs : List Int) (t : Nat), t < lead bs → 128 ≤ bs.getD t 0
  | [], t, h => by simp [lead] at h
  | b :: r, t, h => by
    unfold lead at h
    split at h
    · rename_i hb
      cases t with
      | zero => simpa using hb
      | succ t => have := lead_ge r t (by omega); simpa using this
    · omega
theorem lead_at : ∀ (bs : List Int), lead bs < bs.length → bs.getD (lead bs) 0 < 128
  | [], h => by simp at h
  | b :: r, h => by
    unfold lead at h ⊢
    split
    · rename_i hb
      rw [if_pos hb] at h
      have := lead_at r (by simpa using h)
      simpa using this
    · rename_i hb
      simp; omega
theorem lead_step {bs : List Int} {t : Nat} (ht : t ≤ lead bs) (hl : t < bs.length) : (128 ≤ bs.getD t 0 ∧ t + 1 ≤ lead bs) ∨ (bs.getD t 0 < 128 ∧ t = lead bs) := by
  rcases Nat.lt_or_ge t (lead bs) with h | h
  · exact .inl ⟨lead_ge bs t h, h⟩
  · have e : t = lead bs := by omega
    subst e
    exact .inr ⟨lead_at bs hl, rfl⟩
theorem or_add (z y i : Nat) (h : z < 128 ^ i) : z ||| (y * 128 ^ i) = z + y * 128 ^ i := by
  have e : 128 ^ i = 2 ^ (7 * i) := by rw [Nat.pow_mul]
  rw [e] at h ⊢
  rw [Nat.or_comm, Nat.mul_comm y, ← Nat.two_pow_add_eq_or_of_lt h]
  omega
end Go.Proofs.Ytmjpajaeffhdeaa.L1
