/- The machine of the code: plain law. The machine's single values, of the reference and of the program. append of a whole row, for kinds whose cells hang on no memory. -/
import Derived.Test.YtlhpbpkefkabgaaGreatQS12
import Derived.Test.YtlhpbpkefkabgaaGreatQS2
namespace Go.Proofs.YtlhpbpkefkabgaaGreat.L1
open Go.RowKit Go.Proofs.YtlhpbpkefkabgaaGreatW.PrintWords Go.Proofs.YtlhpbpkefkabgaaGreat.B
set_option linter.unusedVariables false
set_option linter.unusedSimpArgs false
def satMul (a b : Int) : Int := clampI (clampI a * clampI b)
def bitI (b : Bool) : Int := if b then 1 else 0
def maxI (a b : Int) : Int := if b < a then a else b
/-- What a block runs for: the tags, the request or -1, how many there are. -/
structure Env where (tags skills q reqs : Int)
structure Mem where (regs slots : List Int) (rule : Int)
def atI (xs : List Int) (k : Int) : Int := xs.getD k.toNat 0
def putI (xs : List Int) (k x : Int) : List Int := xs.set k.toNat x
def tagOf (set t : Int) : Bool := set / 2 ^ t.toNat % 2 == 1
def binV (v a b : Int) : Int :=
  if v = 0 then satMul a b else if v = 1 then satAdd a b else if v = 2 then satAdd a (-b) else if v = 3 then bitI (decide (a < b)) else if v = 4 then bitI (decide (a ≤ b))
  else if v = 5 then bitI (a == b) else if v = 6 then bitI (a != 0 && b != 0) else bitI (a != 0 || b != 0)
def insV (E : Env) (m : Mem) (x : Ins) : Int :=
  if x.op = 1 then x.b else if x.op = 2 then atI m.regs x.b else if x.op = 3 then -atI m.regs x.b else if x.op = 4 then bitI (atI m.regs x.b == 0)
  else if x.op = 13 then bitI (decide (0 ≤ E.q) && tagOf E.tags x.b) else if x.op = 14 then bitI (tagOf E.skills x.b)
  else if x.op = 20 then (if E.q < 0 then 0 else atI m.slots (x.b * E.reqs + E.q))
  else if x.op = 12 then maxI (atI m.regs x.b) (atI m.regs x.c) else if x.op = 11 then -maxI (-atI m.regs x.b) (-atI m.regs x.c)
  else binV (x.op - 5) (atI m.regs x.b) (atI m.regs x.c)
/-- One instruction: where to go on, the memory behind it. -/
def stepI (E : Env) (k : Nat) (m : Mem) (x : Ins) : Nat × Mem :=
  if x.op = 17 then (x.b.toNat, m)
  else if x.op = 15 then (if atI m.regs x.a = 0 then x.b.toNat else k + 1, m)
  else if x.op = 16 then (if atI m.regs x.a = 0 then k + 1 else x.b.toNat, m)
  else if x.op = 18 then (if atI m.regs x.a = 0 then (16384, { m with rule := x.b }) else (k + 1, m))
  else if x.op = 19 then (k + 1, if E.q < 0 then m else { m with slots := putI m.slots (x.a * E.reqs + E.q) (atI m.regs x.b) })
  else (k + 1, { m with regs := putI m.regs x.a (insV E m x) })
def exec (E : Env) (b : List Ins) : Nat → Nat → Mem → Mem
  | 0, _, m => m
  | f + 1, k, m => if b.length ≤ k then m else exec E b f (stepI E k m (b.getD k zIns)).1 (stepI E k m (b.getD k zIns)).2
theorem exec_end {E : Env} {b : List Ins} {f k : Nat} {m : Mem} (h : b.length ≤ k) : exec E b f k m = m := by
  cases f with
  | zero => rfl
  | succ f => unfold exec; rw [if_pos h]
theorem exec_step {E : Env} {b : List Ins} {f k : Nat} {m : Mem} (h : k < b.length) : exec E b (f + 1) k m = exec E b f (stepI E k m (b.getD k zIns)).1 (stepI E k m (b.getD k zIns)).2 := by
  show (if b.length ≤ k then m else _) = _
  rw [if_neg (by omega)]
/-- All in the range of the registers. -/
def Cap (xs : List Int) : Prop := ∀ x, x ∈ xs → -1000000000 ≤ x ∧ x ≤ 1000000000
theorem Cap.at {xs : List Int} (h : Cap xs) (k : Int) : -1000000000 ≤ atI xs k ∧ atI xs k ≤ 1000000000 := by
  unfold atI
  rw [List.getD_eq_getElem?_getD]
  cases he : xs[k.toNat]? with
  | none => simp
  | some x => exact h x (List.mem_of_getElem? he)
theorem Cap.put {xs : List Int} (h : Cap xs) (k x : Int) (hx : -1000000000 ≤ x ∧ x ≤ 1000000000) : Cap (putI xs k x) := fun y hy => by
  rcases List.mem_or_eq_of_mem_set hy with h1 | rfl
  · exact h y h1
  · exact hx
structure Mok (E : Env) (regs slots : Int) (m : Mem) : Prop where
  rl : (m.regs.length : Int) = regs
  sl : (m.slots.length : Int) = slots * E.reqs
  rc : Cap m.regs
  sc : Cap m.slots
  q0 : -1 ≤ E.q
  q1 : 0 ≤ E.q → E.q < E.reqs
  r0 : 0 ≤ E.reqs
  r1 : E.reqs ≤ 16384
  t0 : 0 ≤ E.tags
  t1 : E.tags ≤ 65535
  k0 : 0 ≤ E.skills
  k1 : E.skills ≤ 65535
theorem bitI_bd (b : Bool) : 0 ≤ bitI b ∧ bitI b ≤ 1 := by unfold bitI; split <;> omega
theorem maxI_bd {a b : Int} (ha : -1000000000 ≤ a ∧ a ≤ 1000000000) (hb : -1000000000 ≤ b ∧ b ≤ 1000000000) : -1000000000 ≤ maxI a b ∧ maxI a b ≤ 1000000000 := by unfold maxI; split <;> omega
theorem binV_bd (v a b : Int) : -1000000000 ≤ binV v a b ∧ binV v a b ≤ 1000000000 := by
  unfold binV
  have h1 := bitI_bd (decide (a < b)); have h2 := bitI_bd (decide (a ≤ b)); have h3 := bitI_bd (a == b); have h4 := bitI_bd (a != 0 && b != 0); have h5 := bitI_bd (a != 0 || b != 0)
  split
  · exact clamp_bd _
  split
  · exact clamp_bd _
  split
  · exact clamp_bd _
  split
  · omega
  split
  · omega
  split
  · omega
  split <;> omega
theorem insV_bd {E : Env} {m : Mem} {x : Ins} {regs slots k n : Int} (h : Mok E regs slots m) (hx : insOk x.op x.a x.b x.c regs slots k n = true) : -1000000000 ≤ insV E m x ∧ insV E m x ≤ 1000000000 := by
  unfold insV
  have hb := h.rc.at x.b; have hc := h.rc.at x.c; have hs := h.sc.at (x.b * E.reqs + E.q)
  split
  · rename_i h1
    unfold insOk at hx
    rw [if_neg (by omega)] at hx
    split at hx
    · cases hx
    · first | rw [if_pos h1] at hx | skip
      rw [Bool.and_eq_true] at hx
      exact (inB_iff _ _ _).1 hx.2
  split
  · exact hb
  split
  · omega
  split
  · have := bitI_bd (atI m.regs x.b == 0); omega
  split
  · have := bitI_bd (decide (0 ≤ E.q) && tagOf E.tags x.b); omega
  split
  · have := bitI_bd (tagOf E.skills x.b); omega
  split
  · split
    · omega
    · exact hs
  split
  · exact maxI_bd hb hc
  split
  · have := maxI_bd (a := -atI m.regs x.b) (b := -atI m.regs x.c) (by omega) (by omega); omega
  · exact binV_bd _ _ _
theorem stepI_ok {E : Env} {m : Mem} {x : Ins} {regs slots : Int} {k n : Nat} (h : Mok E regs slots m) (hx : insOk x.op x.a x.b x.c regs slots k n = true) : Mok E regs slots (stepI E k m x).2 := by
  unfold stepI
  split
  · exact h
  split
  · exact h
  split
  · exact h
  split
  · split
    · exact ⟨h.rl, h.sl, h.rc, h.sc, h.q0, h.q1, h.r0, h.r1, h.t0, h.t1, h.k0, h.k1⟩
    · exact h
  split
  · show Mok E regs slots (if E.q < 0 then m else _)
    split
    · exact h
    · exact ⟨h.rl, by show ((putI m.slots _ _).length : Int) = _; unfold putI; rw [List.length_set]; exact h.sl, h.rc, h.sc.put _ _ (h.rc.at _), h.q0, h.q1, h.r0, h.r1, h.t0, h.t1, h.k0, h.k1⟩
  · exact ⟨by show ((putI m.regs _ _).length : Int) = _; unfold putI; rw [List.length_set]; exact h.rl, h.sl, h.rc.put _ _ (insV_bd h hx), h.sc, h.q0, h.q1, h.r0, h.r1, h.t0, h.t1, h.k0, h.k1⟩
theorem stepI_next {E : Env} {m : Mem} {x : Ins} {regs slots : Int} {k n : Nat} (hx : insOk x.op x.a x.b x.c regs slots k n = true) (hk : k < n) (hn : n ≤ 16384) : k < (stepI E k m x).1 := by
  unfold stepI
  unfold insOk at hx
  split
  · rename_i h1
    rw [if_neg (by omega)] at hx
    split at hx
    · cases hx
    · simp [h1, inB_iff] at hx
      show k < x.b.toNat
      omega
  split
  · rename_i h0 h1
    rw [if_neg (by omega)] at hx
    split at hx
    · cases hx
    · simp [h1, inB_iff] at hx
      have e : k < x.b.toNat := Int.lt_toNat.2 (by omega)
      show k < (if _ then x.b.toNat else k + 1)
      split <;> first | exact e | exact Nat.lt_succ_self k
  split
  · rename_i h00 h0 h1
    rw [if_neg (by omega)] at hx
    split at hx
    · cases hx
    · simp [h1, inB_iff] at hx
      have e : k < x.b.toNat := Int.lt_toNat.2 (by omega)
      show k < (if _ then k + 1 else x.b.toNat)
      split <;> first | exact e | exact Nat.lt_succ_self k
  split
  · split
    · show k < 16384; omega
    · exact Nat.lt_succ_self k
  split <;> exact Nat.lt_succ_self k
theorem blockOk_at {regs slots : Int} {b : List Ins} (h : blockOk regs slots b = true) {k : Nat} (hk : k < b.length) : insOk (b.getD k zIns).op (b.getD k zIns).a (b.getD k zIns).b (b.getD k zIns).c regs slots k b.length = true := by
  unfold blockOk at h
  rw [Bool.and_eq_true] at h
  exact allI_iff.1 h.2 k hk
theorem blockOk_len {regs slots : Int} {b : List Ins} (h : blockOk regs slots b = true) : b.length ≤ 16384 := by
  unfold blockOk at h
  rw [Bool.and_eq_true] at h
  exact of_decide_eq_true h.1
end Go.Proofs.YtlhpbpkefkabgaaGreat.L1
namespace Go.Proofs.YtlhpbpkefkabgaaGreat.L1
open Go.RowKit Go.Proofs.YtlhpbpkefkabgaaGreatW.PrintWords Go.Proofs.YtlhpbpkefkabgaaGreat.B
set_option linter.unusedVariables false
set_option linter.unusedSimpArgs false
attribute [local go_sem] mk_cell mk_frozen
theorem mul_bd {a b : Int} (ha : -1000000000 ≤ a ∧ a ≤ 1000000000) (hb : -1000000000 ≤ b ∧ b ≤ 1000000000) : -1000000000000000000 ≤ a * b ∧ a * b ≤ 1000000000000000000 := by
  have h1 : a.natAbs ≤ 1000000000 := by omega
  have h2 : b.natAbs ≤ 1000000000 := by omega
  have h3 : (a * b).natAbs ≤ 1000000000 * 1000000000 := by rw [Int.natAbs_mul]; exact Nat.mul_le_mul h1 h2
  omega
section
variable (w : World)
theorem spec_SatMul (a b : Int) : Calls Tryz.prog 122 #[.int .i64 a, .int .i64 b] w fun e w' => e = .returned (.int .i64 (satMul a b)) ∧ w' = w := by
  have q0 : IntKind.i64.wrap (clampI a * clampI b) = clampI a * clampI b := IntWalk.i64_in _ (by have := mul_bd (clamp_bd a) (clamp_bd b); omega)
  go_enter Tryz.func122, Tryz.ntmps122
  go_wp2_with (first | (go_at_call 92; refine (spec_clamp _ _).mono ?_; rintro e w' ⟨rfl, rfl⟩))
  go_ret
  exact ⟨rfl, rfl⟩
theorem impl_SatMul (a b : Int) : Calls Tryz.prog 132 #[.int .i64 a, .int .i64 b] w fun e w' => e = .returned (.int .i64 (satMul a b)) ∧ w' = w := by
  have q0 : IntKind.i64.wrap (clampI a * clampI b) = clampI a * clampI b := IntWalk.i64_in _ (by have := mul_bd (clamp_bd a) (clamp_bd b); omega)
  go_enter Tryz.func132, Tryz.ntmps132
  go_wp2_with (first | (go_at_call 124; refine (impl_clamp _ _).mono ?_; rintro e w' ⟨rfl, rfl⟩))
  go_ret
  exact ⟨rfl, rfl⟩
theorem spec_max (a b : Int) : Calls Tryz.prog 54 #[.int .i64 a, .int .i64 b] w fun e w' => e = .returned (.int .i64 (maxI a b)) ∧ w' = w := by
  go_enter Tryz.func54, Tryz.ntmps54
  go_wp2
  all_goals (go_ret; refine ⟨?_, rfl⟩; unfold maxI; first | (rw [if_pos (by omega)]; rfl) | (rw [if_neg (by omega)]; rfl))
theorem spec_bit (b : Bool) : Calls Tryz.prog 55 #[.bool b] w fun e w' => e = .returned (.int .i64 (bitI b)) ∧ w' = w := by
  go_enter Tryz.func55, Tryz.ntmps55
  cases b <;> go_wp2 <;> (go_ret; exact ⟨rfl, rfl⟩)
theorem impl_flag (b : Bool) : Calls Tryz.prog 104 #[.bool b] w fun e w' => e = .returned (.int .i64 (bitI b)) ∧ w' = w := by
  go_enter Tryz.func104, Tryz.ntmps104
  cases b <;> go_wp2 <;> (go_ret; exact ⟨rfl, rfl⟩)
theorem tag_mod {s t : Int} (h0 : 0 ≤ s) : (s / 2 ^ t.toNat).tmod 2 = s / 2 ^ t.toNat % 2 := Int.tmod_eq_emod_of_nonneg (Int.ediv_nonneg h0 (Int.pow_nonneg (by decide)))
theorem spec_has (s t : Int) (h0 : 0 ≤ s) (h1 : s ≤ 65535) (t0 : 0 ≤ t) (t1 : t ≤ 15) : Calls Tryz.prog 94 #[.int .i64 s, .int .i64 t] w fun e w' => e = .returned (.bool (tagOf s t)) ∧ w' = w := by
  have HT := sA (tag_mod (t := t) h0)
  go_enter Tryz.func94, Tryz.ntmps94
  go_wp2
  go_ret
  exact ⟨by show Ending.returned (Value.bool _) = _; rw [HT.out]; rfl, rfl⟩
theorem spec_binVal0 (a b : Int) (ha : -1000000000 ≤ a ∧ a ≤ 1000000000) (hb : -1000000000 ≤ b ∧ b ≤ 1000000000) : Calls Tryz.prog 95 #[.int .i64 0, .int .i64 a, .int .i64 b] w fun e w' => e = .returned (.int .i64 (binV 0 a b)) ∧ w' = w := by
  have q0 : IntKind.i64.wrap (-b) = -b := IntWalk.i64_in _ (by omega)
  have HL := sA (show binV 0 a b = satMul a b by unfold binV; rw [if_pos rfl])
  clear ha hb
  go_enter Tryz.func95, Tryz.ntmps95
  go_wp2_with (go_at_call 122; refine (spec_SatMul _ _ _).mono ?_; rintro e w' ⟨rfl, rfl⟩)
  go_ret
  exact ⟨by rw [HL.out]; rfl, rfl⟩
theorem spec_binVal1 (a b : Int) (ha : -1000000000 ≤ a ∧ a ≤ 1000000000) (hb : -1000000000 ≤ b ∧ b ≤ 1000000000) : Calls Tryz.prog 95 #[.int .i64 1, .int .i64 a, .int .i64 b] w fun e w' => e = .returned (.int .i64 (binV 1 a b)) ∧ w' = w := by
  have q0 : IntKind.i64.wrap (-b) = -b := IntWalk.i64_in _ (by omega)
  have HL := sA (show binV 1 a b = satAdd a b by unfold binV; rw [if_neg (by decide), if_pos rfl])
  clear ha hb
  go_enter Tryz.func95, Tryz.ntmps95
  go_wp2_with (go_at_call 52; refine (spec_SatAdd _ _ _).mono ?_; rintro e w' ⟨rfl, rfl⟩)
  go_ret
  exact ⟨by rw [HL.out]; rfl, rfl⟩
theorem spec_binVal2 (a b : Int) (ha : -1000000000 ≤ a ∧ a ≤ 1000000000) (hb : -1000000000 ≤ b ∧ b ≤ 1000000000) : Calls Tryz.prog 95 #[.int .i64 2, .int .i64 a, .int .i64 b] w fun e w' => e = .returned (.int .i64 (binV 2 a b)) ∧ w' = w := by
  have q0 : IntKind.i64.wrap (-b) = -b := IntWalk.i64_in _ (by omega)
  have HL := sA (show binV 2 a b = satAdd a (-b) by unfold binV; rw [if_neg (by decide), if_neg (by decide), if_pos rfl])
  clear ha hb
  go_enter Tryz.func95, Tryz.ntmps95
  go_wp2_with (go_at_call 52; refine (spec_SatAdd _ _ _).mono ?_; rintro e w' ⟨rfl, rfl⟩)
  go_ret
  exact ⟨by rw [HL.out]; rfl, rfl⟩
theorem spec_binVal3 (a b : Int) (ha : -1000000000 ≤ a ∧ a ≤ 1000000000) (hb : -1000000000 ≤ b ∧ b ≤ 1000000000) : Calls Tryz.prog 95 #[.int .i64 3, .int .i64 a, .int .i64 b] w fun e w' => e = .returned (.int .i64 (binV 3 a b)) ∧ w' = w := by
  have q0 : IntKind.i64.wrap (-b) = -b := IntWalk.i64_in _ (by omega)
  have HL := sA (show binV 3 a b = bitI (decide (a < b)) by unfold binV; rw [if_neg (by decide), if_neg (by decide), if_neg (by decide), if_pos rfl])
  clear ha hb
  go_enter Tryz.func95, Tryz.ntmps95
  go_wp2_with (go_at_call 55; refine (spec_bit _ _).mono ?_; rintro e w' ⟨rfl, rfl⟩)
  go_ret
  exact ⟨by rw [HL.out]; rfl, rfl⟩
theorem spec_binVal4 (a b : Int) (ha : -1000000000 ≤ a ∧ a ≤ 1000000000) (hb : -1000000000 ≤ b ∧ b ≤ 1000000000) : Calls Tryz.prog 95 #[.int .i64 4, .int .i64 a, .int .i64 b] w fun e w' => e = .returned (.int .i64 (binV 4 a b)) ∧ w' = w := by
  have q0 : IntKind.i64.wrap (-b) = -b := IntWalk.i64_in _ (by omega)
  have HL := sA (show binV 4 a b = bitI (decide (a ≤ b)) by unfold binV; rw [if_neg (by decide), if_neg (by decide), if_neg (by decide), if_neg (by decide), if_pos rfl])
  clear ha hb
  go_enter Tryz.func95, Tryz.ntmps95
  go_wp2_with (go_at_call 55; refine (spec_bit _ _).mono ?_; rintro e w' ⟨rfl, rfl⟩)
  go_ret
  exact ⟨by rw [HL.out]; rfl, rfl⟩
theorem spec_binVal5 (a b : Int) (ha : -1000000000 ≤ a ∧ a ≤ 1000000000) (hb : -1000000000 ≤ b ∧ b ≤ 1000000000) : Calls Tryz.prog 95 #[.int .i64 5, .int .i64 a, .int .i64 b] w fun e w' => e = .returned (.int .i64 (binV 5 a b)) ∧ w' = w := by
  have q0 : IntKind.i64.wrap (-b) = -b := IntWalk.i64_in _ (by omega)
  have HL := sA (show binV 5 a b = bitI (a == b) by unfold binV; rw [if_neg (by decide), if_neg (by decide), if_neg (by decide), if_neg (by decide), if_neg (by decide), if_pos rfl])
  clear ha hb
  go_enter Tryz.func95, Tryz.ntmps95
  go_wp2_with (go_at_call 55; refine (spec_bit _ _).mono ?_; rintro e w' ⟨rfl, rfl⟩)
  go_ret
  exact ⟨by rw [HL.out]; rfl, rfl⟩
theorem spec_binVal_and_false (v a b : Int) (hv : v ≠ 0 ∧ v ≠ 1 ∧ v ≠ 2 ∧ v ≠ 3 ∧ v ≠ 4 ∧ v ≠ 5 ∧ v = 6) (hx : (a != 0) = false) : Calls Tryz.prog 95 #[.int .i64 v, .int .i64 a, .int .i64 b] w fun e w' => e = .returned (.int .i64 (binV v a b)) ∧ w' = w := by
  obtain ⟨e0, e1, e2, e3, e4, e5, e6⟩ := hv
  have d0 : (v == 0) = false := beq_eq_false_iff_ne.2 e0; have d1 : (v == 1) = false := beq_eq_false_iff_ne.2 e1; have d2 : (v == 2) = false := beq_eq_false_iff_ne.2 e2; have d3 : (v == 3) = false := beq_eq_false_iff_ne.2 e3; have d4 : (v == 4) = false := beq_eq_false_iff_ne.2 e4; have d5 : (v == 5) = false := beq_eq_false_iff_ne.2 e5
  have c0 : decide (v = 0) = false := decide_eq_false e0; have c1 : decide (v = 1) = false := decide_eq_false e1; have c2 : decide (v = 2) = false := decide_eq_false e2; have c3 : decide (v = 3) = false := decide_eq_false e3; have c4 : decide (v = 4) = false := decide_eq_false e4; have c5 : decide (v = 5) = false := decide_eq_false e5
  have d6 : (v == 6) = true := beq_iff_eq.2 e6; have c6 : decide (v = 6) = true := decide_eq_true e6
  have HL := sA (show binV v a b = bitI (a != 0 && b != 0) by unfold binV; rw [if_neg e0, if_neg e1, if_neg e2, if_neg e3, if_neg e4, if_neg e5, if_pos e6])
  clear e0 e1 e2 e3 e4 e5 e6
  have hd : (a == 0) = true := by simpa using hx
  have hd' : decide (a = 0) = true := by simpa using hx
  rw [hx] at HL
  go_enter Tryz.func95, Tryz.ntmps95
  go_wp2_with (go_at_call 55; refine (spec_bit _ _).mono ?_; rintro e w' ⟨rfl, rfl⟩)
  go_ret
  exact ⟨by rw [HL.out]; rfl, rfl⟩
theorem spec_binVal_and_true (v a b : Int) (hv : v ≠ 0 ∧ v ≠ 1 ∧ v ≠ 2 ∧ v ≠ 3 ∧ v ≠ 4 ∧ v ≠ 5 ∧ v = 6) (hx : (a != 0) = true) : Calls Tryz.prog 95 #[.int .i64 v, .int .i64 a, .int .i64 b] w fun e w' => e = .returned (.int .i64 (binV v a b)) ∧ w' = w := by
  obtain ⟨e0, e1, e2, e3, e4, e5, e6⟩ := hv
  have d0 : (v == 0) = false := beq_eq_false_iff_ne.2 e0; have d1 : (v == 1) = false := beq_eq_false_iff_ne.2 e1; have d2 : (v == 2) = false := beq_eq_false_iff_ne.2 e2; have d3 : (v == 3) = false := beq_eq_false_iff_ne.2 e3; have d4 : (v == 4) = false := beq_eq_false_iff_ne.2 e4; have d5 : (v == 5) = false := beq_eq_false_iff_ne.2 e5
  have c0 : decide (v = 0) = false := decide_eq_false e0; have c1 : decide (v = 1) = false := decide_eq_false e1; have c2 : decide (v = 2) = false := decide_eq_false e2; have c3 : decide (v = 3) = false := decide_eq_false e3; have c4 : decide (v = 4) = false := decide_eq_false e4; have c5 : decide (v = 5) = false := decide_eq_false e5
  have d6 : (v == 6) = true := beq_iff_eq.2 e6; have c6 : decide (v = 6) = true := decide_eq_true e6
  have HL := sA (show binV v a b = bitI (a != 0 && b != 0) by unfold binV; rw [if_neg e0, if_neg e1, if_neg e2, if_neg e3, if_neg e4, if_neg e5, if_pos e6])
  clear e0 e1 e2 e3 e4 e5 e6
  have hd : (a == 0) = false := by simpa using hx
  have hd' : decide (a = 0) = false := by simpa using hx
  rw [hx] at HL
  go_enter Tryz.func95, Tryz.ntmps95
  go_wp2_with (go_at_call 55; refine (spec_bit _ _).mono ?_; rintro e w' ⟨rfl, rfl⟩)
  go_ret
  exact ⟨by rw [HL.out]; rfl, rfl⟩
theorem spec_binVal_or_false (v a b : Int) (hv : v ≠ 0 ∧ v ≠ 1 ∧ v ≠ 2 ∧ v ≠ 3 ∧ v ≠ 4 ∧ v ≠ 5 ∧ v ≠ 6) (hx : (a != 0) = false) : Calls Tryz.prog 95 #[.int .i64 v, .int .i64 a, .int .i64 b] w fun e w' => e = .returned (.int .i64 (binV v a b)) ∧ w' = w := by
  obtain ⟨e0, e1, e2, e3, e4, e5, e6⟩ := hv
  have d0 : (v == 0) = false := beq_eq_false_iff_ne.2 e0; have d1 : (v == 1) = false := beq_eq_false_iff_ne.2 e1; have d2 : (v == 2) = false := beq_eq_false_iff_ne.2 e2; have d3 : (v == 3) = false := beq_eq_false_iff_ne.2 e3; have d4 : (v == 4) = false := beq_eq_false_iff_ne.2 e4; have d5 : (v == 5) = false := beq_eq_false_iff_ne.2 e5
  have c0 : decide (v = 0) = false := decide_eq_false e0; have c1 : decide (v = 1) = false := decide_eq_false e1; have c2 : decide (v = 2) = false := decide_eq_false e2; have c3 : decide (v = 3) = false := decide_eq_false e3; have c4 : decide (v = 4) = false := decide_eq_false e4; have c5 : decide (v = 5) = false := decide_eq_false e5
  have d6 : (v == 6) = false := beq_eq_false_iff_ne.2 e6; have c6 : decide (v = 6) = false := decide_eq_false e6
  have HL := sA (show binV v a b = bitI (a != 0 || b != 0) by unfold binV; rw [if_neg e0, if_neg e1, if_neg e2, if_neg e3, if_neg e4, if_neg e5, if_neg e6])
  clear e0 e1 e2 e3 e4 e5 e6
  have hd : (a == 0) = true := by simpa using hx
  have hd' : decide (a = 0) = true := by simpa using hx
  rw [hx] at HL
  go_enter Tryz.func95, Tryz.ntmps95
  go_wp2_with (go_at_call 55; refine (spec_bit _ _).mono ?_; rintro e w' ⟨rfl, rfl⟩)
  go_ret
  exact ⟨by rw [HL.out]; rfl, rfl⟩
theorem spec_binVal_or_true (v a b : Int) (hv : v ≠ 0 ∧ v ≠ 1 ∧ v ≠ 2 ∧ v ≠ 3 ∧ v ≠ 4 ∧ v ≠ 5 ∧ v ≠ 6) (hx : (a != 0) = true) : Calls Tryz.prog 95 #[.int .i64 v, .int .i64 a, .int .i64 b] w fun e w' => e = .returned (.int .i64 (binV v a b)) ∧ w' = w := by
  obtain ⟨e0, e1, e2, e3, e4, e5, e6⟩ := hv
  have d0 : (v == 0) = false := beq_eq_false_iff_ne.2 e0; have d1 : (v == 1) = false := beq_eq_false_iff_ne.2 e1; have d2 : (v == 2) = false := beq_eq_false_iff_ne.2 e2; have d3 : (v == 3) = false := beq_eq_false_iff_ne.2 e3; have d4 : (v == 4) = false := beq_eq_false_iff_ne.2 e4; have d5 : (v == 5) = false := beq_eq_false_iff_ne.2 e5
  have c0 : decide (v = 0) = false := decide_eq_false e0; have c1 : decide (v = 1) = false := decide_eq_false e1; have c2 : decide (v = 2) = false := decide_eq_false e2; have c3 : decide (v = 3) = false := decide_eq_false e3; have c4 : decide (v = 4) = false := decide_eq_false e4; have c5 : decide (v = 5) = false := decide_eq_false e5
  have d6 : (v == 6) = false := beq_eq_false_iff_ne.2 e6; have c6 : decide (v = 6) = false := decide_eq_false e6
  have HL := sA (show binV v a b = bitI (a != 0 || b != 0) by unfold binV; rw [if_neg e0, if_neg e1, if_neg e2, if_neg e3, if_neg e4, if_neg e5, if_neg e6])
  clear e0 e1 e2 e3 e4 e5 e6
  have hd : (a == 0) = false := by simpa using hx
  have hd' : decide (a = 0) = false := by simpa using hx
  rw [hx] at HL
  go_enter Tryz.func95, Tryz.ntmps95
  go_wp2_with (go_at_call 55; refine (spec_bit _ _).mono ?_; rintro e w' ⟨rfl, rfl⟩)
  go_ret
  exact ⟨by rw [HL.out]; rfl, rfl⟩
theorem spec_binVal (v a b : Int) (ha : -1000000000 ≤ a ∧ a ≤ 1000000000) (hb : -1000000000 ≤ b ∧ b ≤ 1000000000) : Calls Tryz.prog 95 #[.int .i64 v, .int .i64 a, .int .i64 b] w fun e w' => e = .returned (.int .i64 (binV v a b)) ∧ w' = w := by
  by_cases e0 : v = 0
  · subst e0; exact spec_binVal0 w a b ha hb
  by_cases e1 : v = 1
  · subst e1; exact spec_binVal1 w a b ha hb
  by_cases e2 : v = 2
  · subst e2; exact spec_binVal2 w a b ha hb
  by_cases e3 : v = 3
  · subst e3; exact spec_binVal3 w a b ha hb
  by_cases e4 : v = 4
  · subst e4; exact spec_binVal4 w a b ha hb
  by_cases e5 : v = 5
  · subst e5; exact spec_binVal5 w a b ha hb
  by_cases e6 : v = 6
  · cases hx : (a != 0) with
    | false => exact spec_binVal_and_false w v a b ⟨e0, e1, e2, e3, e4, e5, e6⟩ hx
    | true => exact spec_binVal_and_true w v a b ⟨e0, e1, e2, e3, e4, e5, e6⟩ hx
  · cases hx : (a != 0) with
    | false => exact spec_binVal_or_false w v a b ⟨e0, e1, e2, e3, e4, e5, e6⟩ hx
    | true => exact spec_binVal_or_true w v a b ⟨e0, e1, e2, e3, e4, e5, e6⟩ hx
end
end Go.Proofs.YtlhpbpkefkabgaaGreat.L1
namespace Go.Proofs.YtlhpbpkefkabgaaGreat.B
open Go.RowKit Go.Proofs.YtlhpbpkefkabgaaGreatW.PrintWords
set_option linter.unusedVariables false
theorem reps_append {α : Type} {R : α → List Value → Prop} {n : Nat} {xs ys : List α} {a b : List Value} (ha : Reps R n xs a) (hb : Reps R n ys b) : Reps R n (xs ++ ys) (a ++ b) := by
  refine ⟨by rw [List.length_append, ha.1, hb.1, List.length_append, Nat.add_mul], fun j q hq => ?_⟩
  rcases Nat.lt_or_ge j xs.length with hj | hj
  · rw [List.getElem?_append_left hj] at hq
    have h1 : j * n + n ≤ a.length := by rw [ha.1, ← Nat.succ_mul]; exact Nat.mul_le_mul_right _ hj
    have h2 := ha.2 j q hq
    rw [List.drop_append_of_le_length (by omega), List.take_append_of_le_length (by rw [List.length_drop]; omega)]
    exact h2
  · rw [List.getElem?_append_right hj] at hq
    have h2 := hb.2 (j - xs.length) q hq
    have e : j * n = a.length + (j - xs.length) * n := by rw [ha.1, ← Nat.add_mul]; congr 1; omega
    rw [e, List.drop_append, List.drop_of_length_le (by omega), List.nil_append, Nat.add_sub_cancel_left]
    exact h2
theorem reps_flat {α : Type} {n : Nat} {enc : α → List Value} (hn : ∀ x, (enc x).length = n) : ∀ ys : List α, Reps (fun p c => c = enc p) n ys (ys.flatMap enc)
  | [] => Reps.none _ _
  | p :: t => by
    have h1 : Reps (fun p c => c = enc p) n [p] (enc p) := ⟨by rw [hn]; simp, fun j q hq => by
      rcases j with _ | j
      · simp only [List.getElem?_cons_zero, Option.some.injEq] at hq
        subst hq
        rw [Nat.zero_mul, List.drop_zero, ← hn p, List.take_length]
      · simp at hq⟩
    exact reps_append h1 (reps_flat hn t)
theorem flat_get {α : Type} {n : Nat} {enc : α → List Value} (hn : ∀ x, (enc x).length = n) (h0 : 0 < n) {ys : List α} {j : Nat} {u : Value} (h : (ys.flatMap enc)[j]? = some u) : ∃ p, ys[j / n]? = some p ∧ (enc p)[j % n]? = some u := by
  have hr := reps_flat hn ys
  have hj : j < ys.length * n := by rw [← hr.1]; exact (List.getElem?_eq_some_iff.1 h).1
  have hq : j / n < ys.length := (Nat.div_lt_iff_lt_mul h0).2 hj
  refine ⟨ys[j / n], List.getElem?_eq_getElem hq, ?_⟩
  have h2 := hr.2 (j / n) _ (List.getElem?_eq_getElem hq)
  rw [← h2, List.getElem?_take_of_lt (Nat.mod_lt _ h0), List.getElem?_drop, Nat.mul_comm, Nat.div_add_mod]
  exact h
namespace Kd
open Go.Proofs.YtlhpbpkefkabgaaGreatW.PrintWords.Kd
section
variable {P : Program} {ops : Array Oper} {rest : List Oper} {o : Oper} {a : Act} {Q : Exit → Act → World → Prop} {α : Type} {n : Nat} {enc : α → List Value} {hn : ∀ x, (enc x).length = n} {h1 : ∀ x, ∀ u ∈ enc x, u.oneCell' = true}
theorem flat_append_run (d : Kd α) (hdd : d = flat n enc hn h1) {w0 W : World} (base : Nat) (t e : TypeId) (z0 : α) (bytes : Nat)
    (ty : TypeId)
    (ht : P.underlying t = some (.slice e)) (hinfo : (P.info? e).map (fun i => (i.zero.map (·.cells.toList), i.size, i.bytes)) = some (some (enc z0), n, bytes)) (h0 : 0 < n) (hb0 : 0 < bytes)
    (v : Value) (xs ys : List α) (A : Option Addr) (m c : Nat) 
    (HO : d.R e W base (fun _ => True) v xs) (HR : d.C W A m ys) (HB : Below base w0 W) (hbase : base ≤ W.heap.size) (hl : (xs.length + m) * bytes ≤ 140737488355328) :
    ∃ v1 w1, (Builtin.append_ #[t, t] ty #[v, .slice A m c]).run P W = .ok v1 w1 ∧ d.R e w1 base (fun _ => True) v1 (xs ++ ys) ∧ Below base w0 w1 ∧ W.grownBy w1 v.ownBlock ∧ (v1.ownBlock = v.ownBlock ∨ ∃ b, v1.ownBlock = some b ∧ W.heap.size ≤ b) := by
  subst hdd
  obtain ⟨i0, hi, hzz⟩ := Option.map_eq_some_iff.1 hinfo
  simp only [Prod.mk.injEq] at hzz
  obtain ⟨hz0, hz1, hz2⟩ := hzz
  obtain ⟨z, hz3, hz4⟩ := Option.map_eq_some_iff.1 hz0
  have hm : ys.length = m := HR.1
  have hlen : xs.length + m ≤ 140737488355328 := Nat.le_trans (Nat.le_mul_of_pos_right _ hb0) hl
  obtain ⟨_, inner, HW, HQ⟩ := HO
  have HW' : W.ownsRow base e n v xs.length inner := HW
  have HQ' : Reps (fun p c => c = enc p) n xs inner := HQ
  have hrun : ∃ v1 w1, (Builtin.append_ #[t, t] ty #[v, .slice A m c]).run P W = .ok v1 w1 ∧ w1.ownsRow base e n v1 (xs ++ ys).length (inner ++ ys.flatMap enc) ∧ W.grownBy w1 v.ownBlock ∧ (v1.ownBlock = v.ownBlock ∨ v1.ownBlock = some W.heap.size) := by
    rcases A with _ | ad
    · have h00 : m = 0 := by
        rcases Nat.eq_zero_or_pos m with h0 | h0
        · exact h0
        · obtain ⟨ad, h, _⟩ := HR.2.2 h0
          cases h
      subst h00
      obtain rfl : ys = [] := List.eq_nil_of_length_eq_zero hm
      refine ⟨v, W, ?_, by simpa using HW', World.grownBy.refl W _, .inl rfl⟩
      rcases HW'.2 with ⟨rfl, hn⟩ | ⟨g, cap, cur, rfl, _, _, hnc, _⟩
      · simp [Builtin.append_, run_underlying ht, sizeOf, typeInfo, hi, Builtin.lenOf, Builtin.firstCells]
      · simp [Builtin.append_, run_underlying ht, sizeOf, typeInfo, hi, Builtin.lenOf, Builtin.firstCells, hnc, storeCells]
    · have hcells : ∀ j u, (ys.flatMap enc)[j]? = some u → W.cell? (ad.add j) = some u := by
        intro j u hu
        obtain ⟨p, hp, hpu⟩ := flat_get hn h0 hu
        have hpos : 0 < m := by
          rw [← hm]
          exact Nat.lt_of_le_of_lt (Nat.zero_le _) (List.getElem?_eq_some_iff.1 hp).1
        obtain ⟨ad', h', hc⟩ := HR.2.2 hpos
        injection h' with h'
        subst h'
        obtain ⟨c0, _, hc1, hc2⟩ := hc (j / n) p hp
        have hc1' : c0 = enc p := hc1
        subst hc1'
        have := hc2 (j % n) u hpu
        rwa [show j / n * (flat n enc hn h1).sz + j % n = j from by show j / n * n + j % n = j; rw [Nat.mul_comm, Nat.div_add_mod]] at this
      obtain ⟨v1, w1, hr, h2, h3, _, h5⟩ := run_append_own_at (P := P) W base t ty e i0 z n bytes ht hi hz3 hz1 hz2 (by rw [← Array.length_toList, hz4]; exact hn z0) h0 v xs.length inner HW' ad m c (ys.flatMap enc) (by rw [(reps_flat hn ys).1, hm]) hcells
        (by intro u hu; obtain ⟨q, _, hq⟩ := List.mem_flatMap.1 hu; exact h1 q u hq) (by simp only [maxLen]; omega) hl hbase
      exact ⟨v1, w1, hr, by rw [List.length_append, hm]; exact h2, h3, h5⟩
  obtain ⟨v1, w1, hr, hown, hg, hat⟩ := hrun
  refine ⟨v1, w1, hr, ⟨fun _ _ => trivial, _, hown, reps_append HQ' (reps_flat hn ys)⟩, HB.grown hg hbase (own_base HW'), hg, ?_⟩
  rcases hat with hat | hat
  · exact .inl hat
  · exact .inr ⟨_, hat, Nat.le_refl _⟩
/-- append(out, row...). -/
theorem flat_append_row (d : Kd α) (hdd : d = flat n enc hn h1) {w0 W : World} (base : Nat) (hgd : o.guard = none) (s x : Operand) (t e : TypeId) (z0 : α) (bytes : Nat)
    (ho : o.op = .call { callee := .builtin .append, args := #[s, x], argTypes := #[t, t] })
    (ht : P.underlying t = some (.slice e)) (hinfo : (P.info? e).map (fun i => (i.zero.map (·.cells.toList), i.size, i.bytes)) = some (some (enc z0), n, bytes)) (h0 : 0 < n) (hb0 : 0 < bytes)
    (v : Value) (xs ys : List α) (A : Option Addr) (m c : Nat) (hs : a.eval s = v) (hx : a.eval x = .slice A m c)
    (HO : d.R e W base (fun _ => True) v xs) (HR : d.C W A m ys) (HB : Below base w0 W) (hbase : base ≤ W.heap.size) (hl : (xs.length + m) * bytes ≤ 140737488355328)
    (h : ∀ v1 w1, d.R e w1 base (fun _ => True) v1 (xs ++ ys) → Below base w0 w1 → W.grownBy w1 v.ownBlock → (v1.ownBlock = v.ownBlock ∨ ∃ b, v1.ownBlock = some b ∧ W.heap.size ≤ b) → wpList P ops Q rest (a.put o.dst v1) w1) :
    wpList P ops Q (o :: rest) a W := by
  obtain ⟨v1, w1, hr, hR, hB, hg, hat⟩ := flat_append_run (P := P) d hdd (w0 := w0) (W := W) base t e z0 bytes o.type ht hinfo h0 hb0 v xs ys A m c HO HR HB hbase hl
  refine wpList_plain hgd fun K hK => ?_
  unfold Oper.wp execOp
  simp only [ho, resolve, invoke, builtin, Sem.run_bind, Sem.run_pure, Result.andThen_ok, List.map_toArray, List.map_cons, List.map_nil, hs, hx, hr]
  exact hK _ _ (h v1 w1 hR hB hg hat)
/-- The same for an operation of a drawn region. -/
theorem flat_append_step (d : Kd α) (hdd : d = flat n enc hn h1) {w0 W : World} (base : Nat) {N : Option Tmp} {K : Act → World → Prop} {opsR : Array Oper} (hw : Region.wanted o (yielded opsR a.tmps) = true) (hN : o.dst = N) (s x : Operand) (t e : TypeId) (z0 : α) (bytes : Nat)
    (ho : o.op = .call { callee := .builtin .append, args := #[s, x], argTypes := #[t, t] })
    (ht : P.underlying t = some (.slice e)) (hinfo : (P.info? e).map (fun i => (i.zero.map (·.cells.toList), i.size, i.bytes)) = some (some (enc z0), n, bytes)) (h0 : 0 < n) (hb0 : 0 < bytes)
    (v : Value) (xs ys : List α) (A : Option Addr) (m c : Nat) (hs : a.eval s = v) (hx : a.eval x = .slice A m c)
    (HO : d.R e W base (fun _ => True) v xs) (HR : d.C W A m ys) (HB : Below base w0 W) (hbase : base ≤ W.heap.size) (hl : (xs.length + m) * bytes ≤ 140737488355328)
    (h : ∀ v1 w1, d.R e w1 base (fun _ => True) v1 (xs ++ ys) → Below base w0 w1 → W.grownBy w1 v.ownBlock → (v1.ownBlock = v.ownBlock ∨ ∃ b, v1.ownBlock = some b ∧ W.heap.size ≤ b) → K (a.put N v1) w1) :
    if Region.wanted o (yielded opsR a.tmps) = true then Oper.wp P o a W K Q else K (a.put N undef) W := by
  obtain ⟨v1, w1, hr, hR, hB, hg, hat⟩ := flat_append_run (P := P) d hdd (w0 := w0) (W := W) base t e z0 bytes o.type ht hinfo h0 hb0 v xs ys A m c HO HR HB hbase hl
  rw [if_pos hw]
  subst hN
  unfold Oper.wp execOp
  simp only [ho, resolve, invoke, builtin, Sem.run_bind, Sem.run_pure, Result.andThen_ok, List.map_toArray, List.map_cons, List.map_nil, hs, hx, hr]
  exact h v1 w1 hR hB hg hat
end
end Kd
end Go.Proofs.YtlhpbpkefkabgaaGreat.B
