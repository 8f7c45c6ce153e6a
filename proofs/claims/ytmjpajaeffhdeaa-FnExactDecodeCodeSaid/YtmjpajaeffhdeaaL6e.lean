/- One number out of bytes, as the program reads it. -/
import Derived.Test.YtmjpajaeffhdeaaL6d
namespace Go.Proofs.Ytmjpajaeffhdeaa.L1
open Go.RowKit Go.Proofs.YtmjpajaeffhdeaaW.PrintWords Go.Proofs.Ytmjpajaeffhdeaa.B
set_option linter.unusedVariables false
set_option linter.unusedSimpArgs false
attribute [local go_sem] mk_cell mk_frozen
theorem wrap_i64s (n : Int) : IntKind.i64.wrap n = (n + 9223372036854775808) % 18446744073709551616 - 9223372036854775808 := IntKind.wrap_i64 n
theorem xor_i64_zero {a : Nat} (h : a < 2 ^ 62) : bits .xor .i64 (a : Int) 0 = (a : Int) := by
  have ha' : a % 2 ^ IntKind.i64.bits = a := Nat.mod_eq_of_lt (Nat.lt_of_lt_of_le h (Nat.pow_le_pow_right (by decide) (by decide)))
  have h0 : (0 : Int) = ((0 : Nat) : Int) := rfl
  rw [h0]
  simp only [bits, BitVec.ofInt_natCast, BitVec.toNat_xor, BitVec.toNat_ofNat, ha', Nat.zero_mod, Nat.xor_zero]
  exact IntWalk.i64_in _ (by omega)
theorem xor_i64_neg {a : Nat} (h : a < 2 ^ 62) : bits .xor .i64 (a : Int) (-1) = -(a : Int) - 1 := by
  have ha' : a % 2 ^ IntKind.i64.bits = a := Nat.mod_eq_of_lt (Nat.lt_of_lt_of_le h (Nat.pow_le_pow_right (by decide) (by decide)))
  have h1 : (BitVec.ofInt IntKind.i64.bits (-1)).toNat = 2 ^ 64 - 1 := by decide
  simp only [bits, BitVec.ofInt_natCast, BitVec.toNat_xor, BitVec.toNat_ofNat, ha', h1]
  rw [xor_ones a (by omega), wrap_i64s]
  omega
theorem and_u64_one {z : Nat} (h : z < 2 ^ 62) : bits .and .u64 (z : Int) 1 = ((z % 2 : Nat) : Int) := by
  have h2 := (bits_nat .u64 62 (by decide) (fun n h0 h1 => by rw [wrap_u64]; omega) z 1 h (by decide)).1
  rw [show ((1 : Int)) = ((1 : Nat) : Int) from rfl, h2, Nat.and_one_is_mod]
theorem or_u64 {z y K : Nat} (hz : z < 2 ^ 62) (hy : y * K < 2 ^ 62) (h : z ||| (y * K) = z + y * K) : bits .or .u64 (z : Int) ((y * K : Nat) : Int) = ((z + y * K : Nat) : Int) := by
  have h2 := (bits_nat .u64 62 (by decide) (fun n h0 h1 => by rw [wrap_u64]; omega) z (y * K) hz hy).2
  rw [h2, h]
theorem and127 {y : Int} (h0 : 0 ≤ y) (h1 : y < 256) : bits .and .u8 y 127 = y % 128 := by
  have := bits_mask .u8 8 (by decide) wraps_u8 7 (by decide) y h0 h1
  exact this
def NumOk (bs : List Int) (bad bad' : Bool) (m : Int) (rest : List Int) : Prop := match one bs with
  | some (n, r) => m = n ∧ rest = r ∧ bad' = bad
  | none => bad' = true
theorem numOk_none {bs : List Int} (h : one bs = none) (bad : Bool) (m : Int) (rest : List Int) : NumOk bs bad true m rest := by unfold NumOk; rw [h]
theorem numOk_some {bs r : List Int} {n m : Int} (h : one bs = some (n, r)) (hm : m = n) (bad : Bool) : NumOk bs bad bad m r := by unfold NumOk; rw [h]; exact ⟨hm, rfl, rfl⟩
theorem xnum {z : Nat} (h : z < 2 ^ 40) : bits .xor .i64 (wrap64 ((z : Int) / 2)) (wrap64 (-wrap64 (bits .and .u64 (z : Int) 1))) = unzig z := by
  rw [and_u64_one (by omega), ← i64_wrap, ← i64_wrap, ← i64_wrap, IntWalk.i64_in ((z : Int) / 2) (by omega), IntWalk.i64_in ((z % 2 : Nat) : Int) (by omega), IntWalk.i64_in (-((z % 2 : Nat) : Int)) (by omega)]
  rw [show (z : Int) / 2 = ((z / 2 : Nat) : Int) by omega]
  by_cases hz : z % 2 = 0
  · rw [hz, show (-((0 : Nat) : Int)) = 0 from rfl, xor_i64_zero (by omega), unzig_even hz]
  · rw [show z % 2 = 1 by omega, show (-((1 : Nat) : Int)) = -1 from rfl, xor_i64_neg (by omega), unzig_odd hz]
    omega
theorem or_shift {zv y7 i : Nat} (hz : zv < 128 ^ i) (hy : y7 < 128) (hi : i ≤ 4) : bits .or .u64 (zv : Int) (IntKind.u64.wrap (IntKind.u64.wrap (y7 : Int) * 2 ^ (7 * i))) = ((zv + y7 * 128 ^ i : Nat) : Int) := by
  have hp : 128 ^ i ≤ 128 ^ 4 := Nat.pow_le_pow_right (by decide) hi
  have h1 : y7 * 128 ^ i ≤ 127 * 128 ^ 4 := Nat.mul_le_mul (by omega) hp
  have e : ((2 : Int) ^ (7 * i)) = ((128 ^ i : Nat) : Int) := by
    rw [show (128 : Nat) = 2 ^ 7 by decide, ← Nat.pow_mul]; push_cast; rfl
  have e2 : IntKind.u64.wrap (y7 : Int) = (y7 : Int) := by rw [wrap_u64]; omega
  rw [e, e2, show (y7 : Int) * ((128 ^ i : Nat) : Int) = ((y7 * 128 ^ i : Nat) : Int) by push_cast; rfl]
  have e3 : IntKind.u64.wrap ((y7 * 128 ^ i : Nat) : Int) = ((y7 * 128 ^ i : Nat) : Int) := by rw [wrap_u64]; omega
  rw [e3]
  exact or_u64 (by omega) (by omega) (or_add zv y7 i hz)
theorem reads_kByte {w : World} {A : Option Addr} {n : Nat} {xs : List Int} (h : kByte.C w A n xs) : ReadsInt w .u8 A n xs := by
  refine ⟨h.1, h.2.1, fun hn => ?_⟩
  obtain ⟨ad, e, _⟩ := h.2.2 hn
  refine ⟨ad, e, fun j hj => ?_⟩
  obtain ⟨ad', e0, t0, _⟩ := Kd.flat_cells (d := kByte) rfl h 0 j hj
  rw [e] at e0; cases e0
  have := t0 _ rfl; simp only [Nat.mul_one] at this
  exact this
theorem kByte_reads {w : World} {A : Option Addr} {n : Nat} {xs : List Int} (h : ReadsInt w .u8 A n xs) : kByte.C w A n xs := by
  refine ⟨h.1, h.2.1, fun hn => ?_⟩
  obtain ⟨ad, e, hc⟩ := h.2.2 hn
  refine ⟨ad, e, fun j p hp => ⟨[.int .u8 p], rfl, rfl, fun i u hu => ?_⟩⟩
  have hi : i = 0 := by
    rcases i with _ | i
    · rfl
    · simp at hu
  subst hi
  simp only [List.getElem?_cons_zero, Option.some.injEq] at hu
  subst hu
  have hj := (List.getElem?_eq_some_iff.1 hp).1
  have := hc j (by rw [← h.1]; exact hj)
  rw [List.getD_eq_getElem?_getD, hp] at this
  rw [show j * kByte.sz + 0 = j from Nat.mul_one j]
  exact this
theorem cut_bytes (A : Option Addr) (c1 : Nat) (ns : List Int) (a : Nat) (hm : a ≤ ns.length) (hc : ns.length ≤ c1) (ai : Int) (ha : ai = (a : Int)) :
    ∃ (A' : Option Addr) (c' : Nat) (sub : List Int), sub = ns.drop a ∧ sub.length ≤ c' ∧ (∀ W : World, (Instr.slice 36 (.slice A ns.length c1) (some (.int .i64 ai)) none none).run Try.prog W = .ok (.slice A' sub.length c') W) ∧ ∀ w : World, kByte.C w A ns.length ns → kByte.C w A' sub.length sub := by
  have hinfo : ((Try.prog.info? 5).map (·.size)) = some 1 := by kernel_rfl
  obtain ⟨ti, hti, hts⟩ := Option.map_eq_some_iff.1 hinfo
  obtain ⟨A', h2, h3, h4⟩ := print_drop_of (P := Try.prog) (Value.int .u8) (0 : Int) 36 5 .i64 Try.underlying36 hti hts A c1 ns ai (by omega) (by omega) hc
  have e1 : ai.toNat = a := by omega
  rw [e1] at h2 h3 h4
  exact ⟨A', _, _, rfl, h4, h2, fun w h => kByte_reads (readsInt_of.2 (h3 w (readsInt_of.1 (reads_kByte h))))⟩
section
variable (w : World)
set_option maxRecDepth 100000 in
set_option maxHeartbeats 4000000 in
theorem impl_number (g : Nat) (A : Option Addr) (c : Nat) (bs : List Int) (bad : Bool) (hg : w.heap[g]? = some (.cells #[.slice A bs.length c, .bool bad] 92 (0, 0))) (hr : kByte.C w A bs.length bs) (hc : bs.length ≤ c) (hb : ∀ b, b ∈ bs → 0 ≤ b ∧ b < 256) :
    Calls Try.prog 68 #[.pointer (some ⟨g, 0, none⟩)] w fun e w' => ∃ (m : Int) (A' : Option Addr) (c' : Nat) (rest : List Int) (bad' : Bool), e = .returned (.int .i64 m) ∧ w'.heap[g]? = some (.cells #[.slice A' rest.length c', .bool bad'] 92 (0, 0)) ∧ (∀ W : World, kByte.C W A bs.length bs → kByte.C W A' rest.length rest) ∧ rest.length ≤ c' ∧ (∀ b, b ∈ rest → b ∈ bs) ∧ w.grownBy w' (some g) ∧ w'.heap.size = w.heap.size ∧ NumOk bs bad bad' m rest := by
  have HG := Aside0.mk hg; have HR := Aside0.mk hr; have HY := Aside0.mk hb; have HC := Aside0.mk hc; clear hg hr hb hc
  have hml := HR.out.2.1
  obtain ⟨b1, b2⟩ := lay (Below.refl _ _) HG.out
  have z0 := b1 0; have z1 := b1 1; have f0 := b2 0; have f1 := b2 1
  simp only [List.getElem?_toArray, List.getElem?_cons_zero, List.getElem?_cons_succ] at z0 z1
  clear b1 b2
  have HLE := Aside0.mk (lead_le bs)
  go_enter Try.func68, Try.ntmps68
  go_wp2_with fail
  go_loopg [3, 4] 6 (fun q v3 v4 wr => ∃ i : Nat, q = 6 - i ∧ i ≤ 5 ∧ i ≤ lead bs ∧ v4 = .int .i64 i ∧ v3 = .int .u64 ((val (bs.take i) : Nat) : Int) ∧ wr = w)
  case atStart => exact ⟨0, by omega, by omega, by omega, rfl, rfl, rfl⟩
  case round =>
    obtain ⟨i, rfl, hi5, hil, rfl, rfl, rfl⟩ := hrel
    have hle := HLE.out
    by_cases hlt : i < 5 ∧ i < bs.length
    · obtain ⟨h5, hlen⟩ := hlt
      obtain ⟨ad, e0, t0, _⟩ := Kd.flat_cells (d := kByte) rfl HR.out 0 i hlen
      cases e0
      have z := t0 _ rfl; simp only [Nat.mul_one] at z
      clear t0
      have hyb := HY.out (bs.getD i 0) (by rw [List.getD_eq_getElem?_getD, List.getElem?_eq_getElem hlen]; exact List.getElem_mem hlen)
      have hstep := lead_step hil hlen
      have hv : val (bs.take (i + 1)) = val (bs.take i) + (bs.getD i 0 % 128).toNat * 128 ^ i := by
        rw [take_snoc bs i 0 hlen, val_snoc, List.length_take, Nat.min_eq_left (by omega)]
      have hzlt : val (bs.take i) < 128 ^ i := by have := val_lt (bs.take i); rwa [List.length_take, Nat.min_eq_left (by omega)] at this
      generalize hy : bs.getD i 0 = y at z hyb hstep hv
      generalize hzv : val (bs.take i) = zv at hv hzlt
      have HYY := Aside0.mk hy; have HV := Aside0.mk hv; have HST := Aside0.mk hstep; clear hy hv hstep hzv
      obtain ⟨y7, hy7⟩ : ∃ y7 : Nat, y % 128 = (y7 : Int) ∧ y7 < 128 := ⟨(y % 128).toNat, by omega, by omega⟩
      have qa : bits .and .u8 y 127 = (y7 : Int) := by rw [and127 hyb.1 hyb.2]; exact hy7.1
      have HY7 := Aside0.mk hy7; clear hy7
      obtain ⟨zn, hzn⟩ : ∃ zn, zn = val (bs.take (i + 1)) := ⟨_, rfl⟩
      have qb : bits .or .u64 (zv : Int) (IntKind.u64.wrap (IntKind.u64.wrap (y7 : Int) * 2 ^ (7 * i))) = (zn : Int) := by
        rw [or_shift hzlt HY7.out.2 (by omega), hzn, HV.out]
        have := HY7.out.1
        rw [show (y % 128).toNat = y7 by omega]
      have hznl : zn < 2 ^ 40 := by
        have h1 := val_lt (bs.take (i + 1))
        rw [← hzn, List.length_take, Nat.min_eq_left (by omega)] at h1
        exact Nat.lt_of_lt_of_le h1 (Nat.le_trans (Nat.pow_le_pow_right (by decide) (show i + 1 ≤ 5 by omega)) (by decide))
      have HZN := Aside0.mk hzn; have HZL := Aside0.mk hznl; clear hzn hznl
      rcases HST.out with ⟨h1, h2⟩ | ⟨h1, h2⟩
      · have p0 : decide (y < 128) = false := decide_eq_false (by omega)
        clear HST
        have H2 := Aside0.mk h2; have H1 := Aside0.mk h1; clear h1 h2
        go_wp2_with fail
        go_roundg (6 - (i + 1))
        case measure => omega
        case rel => exact ⟨i + 1, rfl, by omega, H2.out, by go_num, by rw [← HZN.out], rfl⟩
      · have p0 : decide (y < 128) = true := decide_eq_true h1
        have H2 := Aside0.mk h2; clear h2 HST
        obtain ⟨A', c', sub, hsub, hsc, cut, hrd⟩ := cut_bytes (some ad) c bs (i + 1) (by omega) HC.out ((i : Int) + 1) (by omega)
        have HSUB := Aside0.mk hsub; have HSC := Aside0.mk hsc; have HRD := Aside0.mk hrd; clear hsub hsc hrd
        have HMEM := Aside0.mk (show ∀ b, b ∈ sub → b ∈ bs from fun b hb => by rw [HSUB.out] at hb; exact List.mem_of_mem_drop hb)
        by_cases hz0 : y = 0 ∧ 0 < i
        · have hN := one_none_of (bs := bs) (.inr (.inr ⟨by have := H2.out; omega, by rw [← H2.out, HYY.out]; exact hz0.1⟩))
          have HN := Aside0.mk hN; clear hN
          have p1 : (y == 0) = true := beq_iff_eq.2 hz0.1
          have p2 : decide (y = 0) = true := decide_eq_true hz0.1
          have p3 : 0 < i := hz0.2
          clear hz0
          cases bad with
          | false =>
            go_wp2
            go_ret
            exact ⟨_, A', c', sub, true, rfl, blk_set (blk_set HG.out 1 (.bool true)) 0 (.slice A' sub.length c'), HRD.out, HSC.out, HMEM.out, grown_set (grown_set (World.grownBy.refl _ _) _ _) _ _, by simp only [World.size_setCell], numOk_none HN.out _ _ _⟩
          | true =>
            go_wp2
            go_ret
            exact ⟨_, A', c', sub, true, rfl, blk_set (blk_set HG.out 1 (.bool true)) 0 (.slice A' sub.length c'), HRD.out, HSC.out, HMEM.out, grown_set (grown_set (World.grownBy.refl _ _) _ _) _ _, by simp only [World.size_setCell], numOk_none HN.out _ _ _⟩
        · have hS := one_some_of (bs := bs) (by have := H2.out; omega) (by have := H2.out; omega) (by rw [← H2.out, HYY.out]; omega)
          rw [← H2.out, ← HZN.out, ← HSUB.out] at hS
          have HS := Aside0.mk hS; clear hS
          have HZ0 := Aside0.mk hz0; clear hz0
          have hw : (y = 0 ∧ ¬ 0 < i) ∨ ((y == 0) = false ∧ decide (y = 0) = false) := by
            by_cases hy0 : y = 0
            · exact .inl ⟨hy0, fun h => HZ0.out ⟨hy0, h⟩⟩
            · exact .inr ⟨beq_eq_false_iff_ne.2 hy0, decide_eq_false hy0⟩
          rcases hw with ⟨e1, e2⟩ | ⟨e1, e2⟩
          · have p1 : (y == 0) = true := beq_iff_eq.2 e1
            have p2 : decide (y = 0) = true := decide_eq_true e1
            have p3 : ¬ 0 < i := e2
            clear e1 e2
            cases bad with
            | false =>
              go_wp2
              go_ret
              exact ⟨_, A', c', sub, false, rfl, blk_set (blk_set HG.out 1 (.bool false)) 0 (.slice A' sub.length c'), HRD.out, HSC.out, HMEM.out, grown_set (grown_set (World.grownBy.refl _ _) _ _) _ _, by simp only [World.size_setCell], numOk_some HS.out (xnum HZL.out) _⟩
            | true =>
              go_wp2
              go_ret
              exact ⟨_, A', c', sub, true, rfl, blk_set (blk_set HG.out 1 (.bool true)) 0 (.slice A' sub.length c'), HRD.out, HSC.out, HMEM.out, grown_set (grown_set (World.grownBy.refl _ _) _ _) _ _, by simp only [World.size_setCell], numOk_some HS.out (xnum HZL.out) _⟩
          · cases bad with
            | false =>
              go_wp2
              go_ret
              exact ⟨_, A', c', sub, false, rfl, blk_set (blk_set HG.out 1 (.bool false)) 0 (.slice A' sub.length c'), HRD.out, HSC.out, HMEM.out, grown_set (grown_set (World.grownBy.refl _ _) _ _) _ _, by simp only [World.size_setCell], numOk_some HS.out (xnum HZL.out) _⟩
            | true =>
              go_wp2
              go_ret
              exact ⟨_, A', c', sub, true, rfl, blk_set (blk_set HG.out 1 (.bool true)) 0 (.slice A' sub.length c'), HRD.out, HSC.out, HMEM.out, grown_set (grown_set (World.grownBy.refl _ _) _ _) _ _, by simp only [World.size_setCell], numOk_some HS.out (xnum HZL.out) _⟩
    · have hN : one bs = none := one_none_of (by
        rcases Nat.lt_or_ge i 5 with h | h
        · exact .inl (by omega)
        · exact .inr (.inl (by omega)))
      have HN := Aside0.mk hN; clear hN
      have HLT := Aside0.mk hlt; clear hlt
      have hw : (i = 5) ∨ (i < 5 ∧ ¬ i < bs.length) := by have := HLT.out; omega
      rcases hw with h5 | ⟨h5, h6⟩
      · subst h5
        go_wp2
        go_ret
        exact ⟨_, A, c, bs, true, rfl, blk_set HG.out 1 (.bool true), fun _ h => h, HC.out, fun _ h => h, grown_set (World.grownBy.refl _ _) _ _, by simp only [World.size_setCell], numOk_none HN.out _ _ _⟩
      · go_wp2
        go_ret
        exact ⟨_, A, c, bs, true, rfl, blk_set HG.out 1 (.bool true), fun _ h => h, HC.out, fun _ h => h, grown_set (World.grownBy.refl _ _) _ _, by simp only [World.size_setCell], numOk_none HN.out _ _ _⟩
end
end Go.Proofs.Ytmjpajaeffhdeaa.L1
