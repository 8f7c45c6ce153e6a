/- Numbers as bytes, as the program tells it. -/
import Derived.Test.YtmjpajaeffhdeaaL5c
namespace Go.Proofs.Ytmjpajaeffhdeaa.L1
open Go.RowKit Go.Proofs.YtmjpajaeffhdeaaW.PrintWords Go.Proofs.Ytmjpajaeffhdeaa.B
set_option linter.unusedVariables false
set_option linter.unusedSimpArgs false
attribute [local go_sem] mk_cell mk_frozen
theorem xor_nat (a b : Nat) (ha : a < 2 ^ 64) (hb : b < 2 ^ 64) : bits .xor .u64 a b = ((a ^^^ b : Nat) : Int) := by
  have ha' : a % 2 ^ IntKind.u64.bits = a := Nat.mod_eq_of_lt ha
  have hb' : b % 2 ^ IntKind.u64.bits = b := Nat.mod_eq_of_lt hb
  simp only [bits, BitVec.ofInt_natCast, BitVec.toNat_xor, BitVec.toNat_ofNat, ha', hb']
  have hx := Nat.xor_lt_two_pow ha hb
  generalize a ^^^ b = x at hx
  have : IntKind.u64.wrap (x : Int) = (x : Int) % 18446744073709551616 := by simp [IntKind.wrap, IntKind.bits, IntKind.signed]
  rw [this]; omega
theorem wrap_u64 (n : Int) : IntKind.u64.wrap n = n % 18446744073709551616 := by simp [IntKind.wrap, IntKind.bits, IntKind.signed]
theorem xor_ones (x : Nat) (h : x < 2 ^ 64) : x ^^^ (2 ^ 64 - 1) = 2 ^ 64 - 1 - x := by
  have h1 := BitVec.xor_allOnes (x := BitVec.ofNat 64 x)
  have h2 := congrArg BitVec.toNat h1
  rw [BitVec.toNat_xor, BitVec.toNat_not, BitVec.toNat_allOnes, BitVec.toNat_ofNat, Nat.mod_eq_of_lt h] at h2
  exact h2
theorem zig_bits {n : Int} (hn : -1000000000 ≤ n ∧ n ≤ 1000000000) : bits .xor .u64 (IntKind.u64.wrap (IntKind.u64.wrap n * 2)) (IntKind.u64.wrap (n / 9223372036854775808)) = ((zig n : Nat) : Int) := by
  rcases Int.lt_or_le n 0 with h | h
  · obtain ⟨m, hm⟩ : ∃ m : Nat, IntKind.u64.wrap (IntKind.u64.wrap n * 2) = (m : Int) ∧ m < 2 ^ 64 ∧ ((2 ^ 64 - 1 - m : Nat) : Int) = -2 * n - 1 := ⟨(18446744073709551616 + 2 * n).toNat, by rw [wrap_u64, wrap_u64]; omega, by omega, by omega⟩
    have h2 : IntKind.u64.wrap (n / 9223372036854775808) = ((2 ^ 64 - 1 : Nat) : Int) := by rw [wrap_u64]; omega
    rw [hm.1, h2, xor_nat _ _ hm.2.1 (by decide), xor_ones _ hm.2.1, hm.2.2]
    unfold zig; rw [if_pos h]; omega
  · obtain ⟨m, hm⟩ : ∃ m : Nat, n = (m : Int) := ⟨n.toNat, by omega⟩
    have h1 : IntKind.u64.wrap (IntKind.u64.wrap n * 2) = ((2 * m : Nat) : Int) := by rw [wrap_u64, wrap_u64]; omega
    have h2 : IntKind.u64.wrap (n / 9223372036854775808) = ((0 : Nat) : Int) := by rw [wrap_u64]; omega
    rw [h1, h2, xor_nat _ _ (by omega) (by decide), Nat.xor_zero]
    unfold zig; rw [if_neg (by omega)]; omega
theorem or_all : ∀ b : Fin 256, b.val ||| 128 = 128 + b.val % 128 := by decide +kernel
theorem or128 (z : Nat) : bits .or .u8 (IntKind.u8.wrap z) 128 = 128 + (z : Int) % 128 := by
  have h := (bits_nat .u8 8 (by decide) wraps_u8 (z % 256) 128 (by omega) (by decide)).2
  rw [show IntKind.u8.wrap (z : Int) = ((z % 256 : Nat) : Int) by rw [IntKind.wrap_u8]; omega]
  refine h.trans ?_
  rw [or_all ⟨z % 256, Nat.mod_lt _ (by decide)⟩]
  show (((128 + z % 256 % 128 : Nat)) : Int) = _
  omega
theorem grown_chain {w wr w1 : World} {r r' : Option Nat} (h : w.grownBy wr r) (hr : r' = r ∨ ∃ b, r' = some b ∧ w.heap.size ≤ b) (h1 : wr.grownBy w1 r') : w.grownBy w1 r :=
  ⟨h1.os.trans h.os, h1.tape.trans h.tape, h1.output.trans h.output, Nat.le_trans h.size h1.size, fun k hk hne => (h1.block k (Nat.lt_of_lt_of_le hk h.size) (by
    rcases hr with rfl | ⟨b, rfl, hb⟩
    · exact hne
    · intro he; cases he; omega)).trans (h.block k hk hne)⟩
theorem own_chain {w wr : World} {r r' r'' : Option Nat} (hs : w.heap.size ≤ wr.heap.size) (h : r' = r ∨ ∃ b, r' = some b ∧ w.heap.size ≤ b) (h1 : r'' = r' ∨ ∃ b, r'' = some b ∧ wr.heap.size ≤ b) : r'' = r ∨ ∃ b, r'' = some b ∧ w.heap.size ≤ b := by
  rcases h1 with rfl | ⟨b, rfl, hb⟩
  · exact h
  · exact .inr ⟨b, rfl, by omega⟩
section
variable (w : World)
set_option maxRecDepth 100000 in
set_option maxHeartbeats 2000000 in
theorem impl_appendNumber (base : Nat) (w0 : World) (v : Value) (xs : List Int) (n : Int) (hn : -1000000000 ≤ n ∧ n ≤ 1000000000) (hr : kByte.R 5 w base (fun _ => True) v xs) (hb : Below base w0 w) (hbase : base ≤ w.heap.size) (hl : xs.length ≤ 100000000) :
    Calls Try.prog 64 #[v, .int .i64 n] w fun e w' => ∃ v1, e = .returned v1 ∧ kByte.R 5 w' base (fun _ => True) v1 (xs ++ varOf n) ∧ Below base w0 w' ∧ w.grownBy w' v.ownBlock ∧ (v1.ownBlock = v.ownBlock ∨ ∃ b, v1.ownBlock = some b ∧ w.heap.size ≤ b) := by
  have HR := Aside0.mk hr; have HB := Aside0.mk hb; clear hr hb
  go_enter Try.func64, Try.ntmps64
  go_wp2_with fail
  rw [zig_bits hn]
  have HV := Aside0.mk (show varOf n = groups (zig n) from rfl)
  have hz := zig_lt hn
  have HVL := Aside0.mk (varOf_len hn)
  generalize zig n = z0 at HV hz
  generalize hvv : varOf n = vs at HV HVL
  have HVV := Aside0.mk hvv; clear hvv
  go_loopg [0, 5] (z0 + 1) (fun q v0 v5 wr => ∃ (z : Nat) (done : List Int), q = z + 1 ∧ z ≤ 2000000000 ∧ v5 = .int .u64 z ∧ Aside0 (vs = done ++ groups z) ∧ Aside0 (kByte.R 5 wr base (fun _ => True) v0 (xs ++ done)) ∧ Aside0 (Below base w0 wr) ∧ Aside0 (w.grownBy wr v.ownBlock) ∧ Aside0 (v0.ownBlock = v.ownBlock ∨ ∃ b, v0.ownBlock = some b ∧ w.heap.size ≤ b))
  case atStart => exact ⟨z0, [], rfl, hz, rfl, ⟨by rw [HV.out]; rfl⟩, ⟨by rw [List.append_nil]; exact HR.out⟩, HB, ⟨World.grownBy.refl w _⟩, ⟨.inl rfl⟩⟩
  case round =>
    obtain ⟨z, done, rfl, hz2, rfl, HD, HRk, HBk, HGk, HOk⟩ := hrel
    clear HR HB HV
    have HLD := Aside0.mk (show done.length ≤ 5 by have := HVL.out; rw [HD.out, List.length_append] at this; omega)
    have HBS := Aside0.mk (show base ≤ wr.heap.size from Nat.le_trans hbase HGk.out.size)
    by_cases hlt : z < 128
    · have p0 : decide ((128 : Int) ≤ (z : Int)) = false := decide_eq_false (by omega)
      have HD1 := Aside0.mk (show xs ++ vs = (xs ++ done) ++ [(z : Int)] by rw [HD.out, groups_small hlt, List.append_assoc])
      have q1 : IntKind.u8.wrap (z : Int) = (z : Int) := by rw [IntKind.wrap_u8]; omega
      go_wp2_with (refine Kd.flat_append_row kByte rfl (w0 := w0) base rfl _ _ 36 5 0 1 rfl Try.underlying36 (by kernel_rfl) (by decide) (by decide) _ (xs ++ done) [(z : Int)] _ _ _ rfl rfl (Kd.R_alloc HRk.out (.cells #[.int .u8 z] 5)) (Kd.R_reads' (flat_lit (d := kByte) rfl wr base 5 [(z : Int)] HBS.out (by simp))).2.2 (HBk.out.alloc HBS.out (.cells #[.int .u8 z] 5)) (Nat.le_trans HBS.out (World.grownBy_alloc wr _ none).size) (by have := HLD.out; rw [List.length_append]; show (_ + 1) * 1 ≤ _; omega) ?_; intro v2 w2 hr2 hb2 hg2 ho2; have HR2 := Aside0.mk hr2; have HB2 := Aside0.mk hb2; have HG2 := Aside0.mk (grown_chain HGk.out HOk.out (World.grownBy.trans (World.grownBy_alloc wr _ _) hg2)); have HO2 := Aside0.mk (own_chain (Nat.le_trans HGk.out.size (World.grownBy_alloc wr (.cells #[.int .u8 z] 5) none).size) HOk.out ho2); clear hr2 hb2 hg2 ho2)
      go_ret
      exact ⟨_, rfl, by rw [HVV.out, HD1.out]; exact HR2.out, HB2.out, HG2.out, HO2.out⟩
    · have p0 : decide ((128 : Int) ≤ (z : Int)) = true := decide_eq_true (by omega)
      have HD1 := Aside0.mk (show vs = (done ++ [128 + (z : Int) % 128]) ++ groups (z / 128) by rw [HD.out, groups_big hlt, List.append_assoc]; rfl)
      have q1 : bits .or .u8 ((z : Int) % 256) 128 = 128 + (z : Int) % 128 := by have h := or128 z; rw [IntKind.wrap_u8] at h; exact h
      go_wp2_with (refine Kd.flat_append_row kByte rfl (w0 := w0) base rfl _ _ 36 5 0 1 rfl Try.underlying36 (by kernel_rfl) (by decide) (by decide) _ (xs ++ done) [128 + (z : Int) % 128] _ _ _ rfl rfl (Kd.R_alloc HRk.out (.cells #[.int .u8 (128 + (z : Int) % 128)] 5)) (Kd.R_reads' (flat_lit (d := kByte) rfl wr base 5 [128 + (z : Int) % 128] HBS.out (by simp))).2.2 (HBk.out.alloc HBS.out (.cells #[.int .u8 (128 + (z : Int) % 128)] 5)) (Nat.le_trans HBS.out (World.grownBy_alloc wr _ none).size) (by have := HLD.out; rw [List.length_append]; show (_ + 1) * 1 ≤ _; omega) ?_; intro v2 w2 hr2 hb2 hg2 ho2; have HR2 := Aside0.mk hr2; have HB2 := Aside0.mk hb2; have HG2 := Aside0.mk (grown_chain HGk.out HOk.out (World.grownBy.trans (World.grownBy_alloc wr _ _) hg2)); have HO2 := Aside0.mk (own_chain (Nat.le_trans HGk.out.size (World.grownBy_alloc wr (.cells #[.int .u8 (128 + (z : Int) % 128)] 5) none).size) HOk.out ho2); clear hr2 hb2 hg2 ho2)
      go_roundg (z / 128 + 1)
      case measure => omega
      case rel => exact ⟨z / 128, done ++ [128 + (z : Int) % 128], rfl, by omega, by show Value.int .u64 _ = Value.int .u64 _; congr 1, HD1, ⟨by rw [← List.append_assoc]; exact HR2.out⟩, HB2, HG2, HO2⟩
end
end Go.Proofs.Ytmjpajaeffhdeaa.L1
