/- All numbers of a byte text, as the reference tells them. -/
import Derived.Test.YtmjpajaeffhdeaaL6a
namespace Go.Proofs.Ytmjpajaeffhdeaa.L1
open Go.RowKit Go.Proofs.YtmjpajaeffhdeaaW.PrintWords Go.Proofs.Ytmjpajaeffhdeaa.B
set_option linter.unusedVariables false
set_option linter.unusedSimpArgs false
attribute [local go_sem] mk_cell mk_frozen
theorem val_drop (l : List Int) (t : Nat) (h : t < l.length) : val (l.drop t) = (l.getD t 0 % 128).toNat + 128 * val (l.drop (t + 1)) := by
  rw [List.drop_eq_getElem_cons h, List.getD_eq_getElem?_getD, List.getElem?_eq_getElem h]; rfl
theorem one_none_of {bs : List Int} (h : lead bs = bs.length ∨ 5 ≤ lead bs ∨ (0 < lead bs ∧ bs.getD (lead bs) 0 = 0)) : one bs = none := by
  unfold one
  by_cases h0 : lead bs = bs.length
  · rw [if_pos h0]
  rw [if_neg h0]
  by_cases h1 : 5 ≤ lead bs
  · rw [if_pos h1]
  rw [if_neg h1, if_pos (by rcases h with h | h | h; exact absurd h h0; exact absurd h h1; exact h)]
theorem one_some_of {bs : List Int} (h0 : lead bs ≠ bs.length) (h1 : ¬ 5 ≤ lead bs) (h2 : ¬ (0 < lead bs ∧ bs.getD (lead bs) 0 = 0)) : one bs = some (unzig (val (bs.take (lead bs + 1))), bs.drop (lead bs + 1)) := by
  unfold one; rw [if_neg h0, if_neg h1, if_neg h2]
theorem i64_wrap (n : Int) : IntKind.i64.wrap n = wrap64 n := by unfold Go.RowKit.wrap64; exact IntKind.wrap_i64 n
theorem unzig_even {z : Nat} (h : z % 2 = 0) : unzig z = ((z / 2 : Nat) : Int) := by unfold unzig; rw [if_pos h]
theorem unzig_odd {z : Nat} (h : ¬ z % 2 = 0) : unzig z = -(((z + 1) / 2 : Nat) : Int) := by unfold unzig; rw [if_neg h]
section
variable (w : World)
set_option maxRecDepth 100000 in
set_option maxHeartbeats 4000000 in
theorem spec_numbers (A : Option Addr) (c : Nat) (bs : List Int) (hr : kByte.C w A bs.length bs) (hb : ∀ b, b ∈ bs → 0 ≤ b ∧ b < 256) (hl : bs.length ≤ 1048576) :
    Calls Try.prog 66 #[.slice A bs.length c] w fun e w' => ∃ v, e = .returned (.tuple #[.bool (parse bs).isSome, v]) ∧ (∀ ns, parse bs = some ns → kInt.R 2 w' w.heap.size (fun _ => True) v ns) ∧ Below w.heap.size w w' := by
  have HR := Aside0.mk hr; have HY := Aside0.mk hb; clear hr hb
  have HL0 := Aside0.mk (flat_lit (d := kInt) rfl w w.heap.size 2 [] (Nat.le_refl _) (by simp))
  have HB0 := Aside0.mk (below_alloc (Below.refl w.heap.size w) (.cells #[] 2))
  go_enter Try.func66, Try.ntmps66
  go_wp2_with fail
  go_loopg [4, 5] (bs.length + 1) (fun q v4 v5 wr => ∃ (i : Nat) (out : List Int), q = bs.length + 1 - i ∧ i ≤ bs.length ∧ v5 = .int .i64 i ∧ Aside0 (kInt.R 2 wr w.heap.size (fun _ => True) v4 out) ∧ Aside0 (Below w.heap.size w wr) ∧ Aside0 (parse bs = (parse (bs.drop i)).map (out ++ ·)) ∧ Aside0 (out.length ≤ i))
  case atStart => exact ⟨0, [], by omega, by omega, rfl, HL0, HB0, ⟨by rw [List.drop_zero]; cases parse bs <;> rfl⟩, ⟨by simp⟩⟩
  case round =>
    rename World => wo
    obtain ⟨i, out, rfl, hi, rfl, HO, HB, HP, HOL⟩ := hrel
    clear HL0 HB0
    by_cases hlt : i < bs.length
    · have HPI := Aside0.mk (show decide ((i : Int) < (bs.length : Int)) = true by simp; omega)
      obtain ⟨cs, hcs⟩ : ∃ cs, cs = bs.drop i := ⟨_, rfl⟩
      have hcl : cs.length = bs.length - i := by rw [hcs, List.length_drop]
      have HAT := Aside0.mk (show ∀ t, t < cs.length → wo.cell? ⟨0, 0, none⟩ = wo.cell? ⟨0, 0, none⟩ ∧ bs.getD (i + t) 0 = cs.getD t 0 from fun t ht => ⟨rfl, by rw [hcs]; simp [List.getD_eq_getElem?_getD, List.getElem?_drop]⟩)
      have HCS := Aside0.mk hcs; clear hcs
      have HPC := Aside0.mk (show parse bs = (parse cs).map (out ++ ·) by rw [HCS.out]; exact HP.out); clear HP
      have HCL := Aside0.mk hcl
      have HLE := Aside0.mk (lead_le cs)
      go_wp2_with fail
      go_loopg [6] (bs.length + 1 - i) (fun q v6 wi => ∃ j : Nat, q = bs.length + 1 - j ∧ i ≤ j ∧ j - i ≤ lead cs ∧ v6 = .int .i64 j ∧ wi = wo)
      case atStart => exact ⟨i, by omega, by omega, by omega, rfl, rfl⟩
      case round =>
        obtain ⟨j, rfl, hij, ht, rfl, rfl⟩ := hrel
        have hle := HLE.out
        by_cases hjl : j < bs.length
        · obtain ⟨ad, e0, t0, t1⟩ := Kd.flat_cells (d := kByte) rfl (Kd.C_below HR.out HB.out) 0 j hjl
          cases e0
          have z := t0 _ rfl; simp only [Nat.mul_one] at z
          clear t0 t1
          have hyc : bs.getD j 0 = cs.getD (j - i) 0 := by have := (HAT.out (j - i) (by omega)).2; rw [show i + (j - i) = j by omega] at this; exact this
          have HYB := Aside0.mk (HY.out (bs.getD j 0) (by rw [List.getD_eq_getElem?_getD, List.getElem?_eq_getElem hjl]; exact List.getElem_mem hjl))
          have hstep := lead_step ht (show j - i < cs.length by omega)
          rw [← hyc] at hstep
          generalize hy : bs.getD j 0 = y at z hstep HYB hyc
          have HYY := Aside0.mk hy; have HYC := Aside0.mk hyc; clear hy hyc
          rcases hstep with ⟨h1, h2⟩ | ⟨h1, h2⟩
          · have p0 : decide (128 ≤ y) = true := decide_eq_true h1
            go_wp2
            go_roundg (bs.length + 1 - (j + 1))
            case measure => omega
            case rel => exact ⟨j + 1, rfl, by omega, by omega, by go_num, rfl⟩
          · have H2 := Aside0.mk h2; clear h2
            have p0 : decide (128 ≤ y) = false := decide_eq_false (by omega)
            have pj : ((j : Int) == (bs.length : Int)) = false := beq_eq_false_iff_ne.2 (by omega)
            have pj2 : decide ((j : Int) = (bs.length : Int)) = false := decide_eq_false (by omega)
            have q0 : IntKind.i64.wrap ((j : Int) - (i : Int)) = ((j - i : Nat) : Int) := by rw [IntWalk.i64_in _ (by omega)]; omega
            by_cases h5 : 5 ≤ j - i
            · have p5 : decide ((5 : Int) ≤ ((j - i : Nat) : Int)) = true := decide_eq_true (by omega)
              have HN := Aside0.mk (show parse bs = none by rw [HPC.out, parse_none (by intro e; rw [e] at hcl; simp at hcl; omega) (one_none_of (.inr (.inl (by have := H2.out; omega))))]; rfl)
              go_wp2
              go_ret2
              exact ⟨_, by rw [HN.out]; rfl, (fun ns h => by rw [HN.out] at h; cases h), HB.out⟩
            · have p5 : decide ((5 : Int) ≤ ((j - i : Nat) : Int)) = false := decide_eq_false (by omega)
              by_cases hy0 : i < j ∧ y = 0
              · have p6 : decide ((i : Int) < (j : Int)) = true := decide_eq_true (by omega)
                have hij2 : i < j := hy0.1
                have p7 : (y == 0) = true := beq_iff_eq.2 hy0.2
                have p8 : decide (y = 0) = true := decide_eq_true hy0.2
                have HN := Aside0.mk (show parse bs = none by rw [HPC.out, parse_none (by intro e; rw [e] at hcl; simp at hcl; omega) (one_none_of (.inr (.inr ⟨by have := H2.out; omega, by rw [← H2.out, ← HYC.out]; exact hy0.2⟩)))]; rfl)
                clear hy0
                go_wp2
                go_ret2
                exact ⟨_, by rw [HN.out]; rfl, (fun ns h => by rw [HN.out] at h; cases h), HB.out⟩
              · have HONE := Aside0.mk (one_some_of (bs := cs) (by have := H2.out; omega) (by have := H2.out; omega) (by rw [← H2.out, ← HYC.out]; omega))
                have HY0 := Aside0.mk hy0; clear hy0
                have p6 : decide ((i : Int) < (j : Int)) = decide (i < j) := by simp
                have HPN := Aside0.mk (show parse bs = (parse (bs.drop (j + 1))).map ((out ++ [unzig (val (cs.take (j - i + 1)))]) ++ ·) by
                  rw [HPC.out, parse_some HONE.out, HCS.out, List.drop_drop, ← HCS.out, ← H2.out, show i + (j - i + 1) = j + 1 by omega]
                  cases parse (bs.drop (j + 1)) <;> simp)
                have HTL := Aside0.mk (show (cs.take (j - i + 1)).length = j - i + 1 by rw [List.length_take]; have := H2.out; omega)
                have HTE := Aside0.mk (show ∀ t, t < j - i + 1 → (cs.take (j - i + 1)).getD t 0 = bs.getD (i + t) 0 from fun t ht => by
                  rw [(HAT.out t (by have := H2.out; omega)).2, List.getD_eq_getElem?_getD, List.getElem?_take_of_lt ht, List.getD_eq_getElem?_getD])
                clear HPC HONE
                generalize cs.take (j - i + 1) = ts at HPN HTL HTE
                have hw : (i < j ∧ (y == 0) = false ∧ decide (y = 0) = false ∧ decide ((i : Int) < (j : Int)) = true) ∨ (i = j ∧ decide ((i : Int) < (j : Int)) = false) := by
                  rcases Nat.lt_or_ge i j with h | h
                  · exact .inl ⟨h, beq_eq_false_iff_ne.2 (fun e => HY0.out ⟨h, e⟩), decide_eq_false (fun e => HY0.out ⟨h, e⟩), decide_eq_true (by omega)⟩
                  · exact .inr ⟨by omega, decide_eq_false (by omega)⟩
                clear p6
                rcases hw with ⟨hlt2, y1, y2, p6⟩ | ⟨heq, p6⟩
                · go_wp2_with fail
                  rename World => wz
                  go_loopg [7, 8] (j - i + 2) (fun q v7 v8 wi => ∃ t : Nat, q = t + 1 ∧ t ≤ j - i + 1 ∧ v7 = .int .i64 ((val (ts.drop t) : Nat) : Int) ∧ v8 = .int .i64 ((i : Int) + (t : Int) - 1) ∧ wi = wz)
                  case atStart => exact ⟨j - i + 1, rfl, by omega, by rw [List.drop_of_length_le (by have := HTL.out; omega)]; rfl, by show Value.int .i64 _ = Value.int .i64 _; congr 1; omega, rfl⟩
                  case round =>
                    obtain ⟨t, rfl, htt, rfl, rfl, rfl⟩ := hrel
                    by_cases ht0 : 0 < t
                    · have hzl : i + (t - 1) < bs.length := by omega
                      obtain ⟨ad', e0, t0, t1⟩ := Kd.flat_cells (d := kByte) rfl (Kd.C_below HR.out HB.out) 0 (i + (t - 1)) hzl
                      cases e0
                      have zz := t0 _ rfl; simp only [Nat.mul_one] at zz
                      clear t0 t1
                      have hb1 := HY.out (bs.getD (i + (t - 1)) 0) (by rw [List.getD_eq_getElem?_getD, List.getElem?_eq_getElem hzl]; exact List.getElem_mem hzl)
                      have hv := val_drop ts (t - 1) (by have := HTL.out; omega)
                      rw [HTE.out (t - 1) (by omega), show t - 1 + 1 = t by omega] at hv
                      have hlt3 : val (ts.drop t) < 128 ^ (5 : Nat) := Nat.lt_of_lt_of_le (val_lt _) (Nat.pow_le_pow_right (by decide) (by rw [List.length_drop]; have := HTL.out; omega))
                      generalize bs.getD (i + (t - 1)) 0 = yy at zz hb1 hv
                      obtain ⟨kk, hkk⟩ : ∃ kk : Nat, kk = i + (t - 1) := ⟨_, rfl⟩
                      rw [← hkk] at zz
                      have hk2 : (i : Int) + (t : Int) - 1 = (kk : Int) := by omega
                      have hkl : kk < bs.length := by omega
                      have HKK := Aside0.mk hkk; clear hkk
                      generalize hzv : val (ts.drop t) = zv at hv hlt3
                      rw [hk2]
                      have hik : i ≤ kk := by have := HKK.out; omega
                      have HV := Aside0.mk hv; have HK2 := Aside0.mk hk2; have HZV := Aside0.mk hzv; clear hv hk2 hzv
                      have qm : IntKind.i64.wrap ((zv : Int) * 128) = (zv : Int) * 128 := IntWalk.i64_in _ (by omega)
                      go_wp2_with fail
                      go_roundg t
                      case measure => omega
                      case rel => exact ⟨t - 1, by omega, by omega, by show Value.int .i64 _ = Value.int .i64 _; congr 1; have := HV.out; omega, by show Value.int .i64 _ = Value.int .i64 _; congr 1; have := HK2.out; omega, rfl⟩
                    · have ht00 : t = 0 := by omega
                      subst ht00
                      rw [List.drop_zero]
                      have hvl : val ts < 128 ^ (5 : Nat) := Nat.lt_of_lt_of_le (val_lt _) (Nat.pow_le_pow_right (by decide) (by have := HTL.out; omega))
                      obtain ⟨zv, hzv⟩ : ∃ zv, zv = val ts := ⟨_, rfl⟩
                      rw [← hzv] at hvl
                      rw [← hzv]
                      have HZV := Aside0.mk hzv; clear hzv
                      have hge : ¬ (i : Int) ≤ (i : Int) + ((0 : Nat) : Int) - 1 := by omega
                      by_cases hev : zv % 2 = 0
                      · have HU := Aside0.mk (show unzig (val ts) = (zv : Int) / 2 by rw [← HZV.out, unzig_even hev]; omega)
                        have e0 : (zv : Int) % 2 = 0 := by omega
                        go_wp2_with (refine Kd.flat_append_row kInt rfl (w0 := w) w.heap.size rfl _ _ 61 2 0 8 rfl Try.underlying61 (by kernel_rfl) (by decide) (by decide) _ out [(zv : Int) / 2] _ _ _ rfl rfl (Kd.R_alloc HO.out (.cells #[.int .i64 ((zv : Int) / 2)] 2)) (Kd.R_reads' (flat_lit (d := kInt) rfl wr w.heap.size 2 [(zv : Int) / 2] HB.out.size (by simp))).2.2 (below_alloc HB.out (.cells #[.int .i64 ((zv : Int) / 2)] 2)) (below_alloc HB.out (.cells #[.int .i64 ((zv : Int) / 2)] 2)).size (by have := HOL.out; show (_ + 1) * 8 ≤ _; omega) ?_; intro v2 w2 hr2 hb2 _ _; have HR2 := Aside0.mk hr2; have HB2 := Aside0.mk hb2; clear hr2 hb2)
                        go_roundg (bs.length + 1 - (j + 1))
                        case measure => omega
                        case rel => exact ⟨j + 1, out ++ [(zv : Int) / 2], rfl, by omega, by go_num, HR2, HB2, ⟨by rw [HPN.out, HU.out]⟩, ⟨by have := HOL.out; rw [List.length_append]; show _ + 1 ≤ _; omega⟩⟩
                      · have HU := Aside0.mk (show unzig (val ts) = -(((zv : Int) + 1) / 2) by rw [← HZV.out, unzig_odd hev]; omega)
                        have e0 : ¬ (zv : Int) % 2 = 0 := by omega
                        have e1 : wrap64 (-(((zv : Int) + 1).tdiv 2)) = -(((zv : Int) + 1) / 2) := by rw [← i64_wrap, Int.tdiv_eq_ediv_of_nonneg (by omega), IntWalk.i64_in _ (by omega)]
                        go_wp2_with (refine Kd.flat_append_row kInt rfl (w0 := w) w.heap.size rfl _ _ 61 2 0 8 rfl Try.underlying61 (by kernel_rfl) (by decide) (by decide) _ out [-(((zv : Int) + 1) / 2)] _ _ _ rfl rfl (Kd.R_alloc HO.out (.cells #[.int .i64 (-(((zv : Int) + 1) / 2))] 2)) (Kd.R_reads' (flat_lit (d := kInt) rfl wr w.heap.size 2 [-(((zv : Int) + 1) / 2)] HB.out.size (by simp))).2.2 (below_alloc HB.out (.cells #[.int .i64 (-(((zv : Int) + 1) / 2))] 2)) (below_alloc HB.out (.cells #[.int .i64 (-(((zv : Int) + 1) / 2))] 2)).size (by have := HOL.out; show (_ + 1) * 8 ≤ _; omega) ?_; intro v2 w2 hr2 hb2 _ _; have HR2 := Aside0.mk hr2; have HB2 := Aside0.mk hb2; clear hr2 hb2)
                        go_roundg (bs.length + 1 - (j + 1))
                        case measure => omega
                        case rel => exact ⟨j + 1, out ++ [-(((zv : Int) + 1) / 2)], rfl, by omega, by go_num, HR2, HB2, ⟨by rw [HPN.out, HU.out]⟩, ⟨by have := HOL.out; rw [List.length_append]; show _ + 1 ≤ _; omega⟩⟩
                · go_wp2_with fail
                  rename World => wz
                  go_loopg [7, 8] (j - i + 2) (fun q v7 v8 wi => ∃ t : Nat, q = t + 1 ∧ t ≤ j - i + 1 ∧ v7 = .int .i64 ((val (ts.drop t) : Nat) : Int) ∧ v8 = .int .i64 ((i : Int) + (t : Int) - 1) ∧ wi = wz)
                  case atStart => exact ⟨j - i + 1, rfl, by omega, by rw [List.drop_of_length_le (by have := HTL.out; omega)]; rfl, by show Value.int .i64 _ = Value.int .i64 _; congr 1; omega, rfl⟩
                  case round =>
                    obtain ⟨t, rfl, htt, rfl, rfl, rfl⟩ := hrel
                    by_cases ht0 : 0 < t
                    · have hzl : i + (t - 1) < bs.length := by omega
                      obtain ⟨ad', e0, t0, t1⟩ := Kd.flat_cells (d := kByte) rfl (Kd.C_below HR.out HB.out) 0 (i + (t - 1)) hzl
                      cases e0
                      have zz := t0 _ rfl; simp only [Nat.mul_one] at zz
                      clear t0 t1
                      have hb1 := HY.out (bs.getD (i + (t - 1)) 0) (by rw [List.getD_eq_getElem?_getD, List.getElem?_eq_getElem hzl]; exact List.getElem_mem hzl)
                      have hv := val_drop ts (t - 1) (by have := HTL.out; omega)
                      rw [HTE.out (t - 1) (by omega), show t - 1 + 1 = t by omega] at hv
                      have hlt3 : val (ts.drop t) < 128 ^ (5 : Nat) := Nat.lt_of_lt_of_le (val_lt _) (Nat.pow_le_pow_right (by decide) (by rw [List.length_drop]; have := HTL.out; omega))
                      generalize bs.getD (i + (t - 1)) 0 = yy at zz hb1 hv
                      obtain ⟨kk, hkk⟩ : ∃ kk : Nat, kk = i + (t - 1) := ⟨_, rfl⟩
                      rw [← hkk] at zz
                      have hk2 : (i : Int) + (t : Int) - 1 = (kk : Int) := by omega
                      have hkl : kk < bs.length := by omega
                      have HKK := Aside0.mk hkk; clear hkk
                      generalize hzv : val (ts.drop t) = zv at hv hlt3
                      rw [hk2]
                      have hik : i ≤ kk := by have := HKK.out; omega
                      have HV := Aside0.mk hv; have HK2 := Aside0.mk hk2; have HZV := Aside0.mk hzv; clear hv hk2 hzv
                      have qm : IntKind.i64.wrap ((zv : Int) * 128) = (zv : Int) * 128 := IntWalk.i64_in _ (by omega)
                      go_wp2_with fail
                      go_roundg t
                      case measure => omega
                      case rel => exact ⟨t - 1, by omega, by omega, by show Value.int .i64 _ = Value.int .i64 _; congr 1; have := HV.out; omega, by show Value.int .i64 _ = Value.int .i64 _; congr 1; have := HK2.out; omega, rfl⟩
                    · have ht00 : t = 0 := by omega
                      subst ht00
                      rw [List.drop_zero]
                      have hvl : val ts < 128 ^ (5 : Nat) := Nat.lt_of_lt_of_le (val_lt _) (Nat.pow_le_pow_right (by decide) (by have := HTL.out; omega))
                      obtain ⟨zv, hzv⟩ : ∃ zv, zv = val ts := ⟨_, rfl⟩
                      rw [← hzv] at hvl
                      rw [← hzv]
                      have HZV := Aside0.mk hzv; clear hzv
                      have hge : ¬ (i : Int) ≤ (i : Int) + ((0 : Nat) : Int) - 1 := by omega
                      by_cases hev : zv % 2 = 0
                      · have HU := Aside0.mk (show unzig (val ts) = (zv : Int) / 2 by rw [← HZV.out, unzig_even hev]; omega)
                        have e0 : (zv : Int) % 2 = 0 := by omega
                        go_wp2_with (refine Kd.flat_append_row kInt rfl (w0 := w) w.heap.size rfl _ _ 61 2 0 8 rfl Try.underlying61 (by kernel_rfl) (by decide) (by decide) _ out [(zv : Int) / 2] _ _ _ rfl rfl (Kd.R_alloc HO.out (.cells #[.int .i64 ((zv : Int) / 2)] 2)) (Kd.R_reads' (flat_lit (d := kInt) rfl wr w.heap.size 2 [(zv : Int) / 2] HB.out.size (by simp))).2.2 (below_alloc HB.out (.cells #[.int .i64 ((zv : Int) / 2)] 2)) (below_alloc HB.out (.cells #[.int .i64 ((zv : Int) / 2)] 2)).size (by have := HOL.out; show (_ + 1) * 8 ≤ _; omega) ?_; intro v2 w2 hr2 hb2 _ _; have HR2 := Aside0.mk hr2; have HB2 := Aside0.mk hb2; clear hr2 hb2)
                        go_roundg (bs.length + 1 - (j + 1))
                        case measure => omega
                        case rel => exact ⟨j + 1, out ++ [(zv : Int) / 2], rfl, by omega, by go_num, HR2, HB2, ⟨by rw [HPN.out, HU.out]⟩, ⟨by have := HOL.out; rw [List.length_append]; show _ + 1 ≤ _; omega⟩⟩
                      · have HU := Aside0.mk (show unzig (val ts) = -(((zv : Int) + 1) / 2) by rw [← HZV.out, unzig_odd hev]; omega)
                        have e0 : ¬ (zv : Int) % 2 = 0 := by omega
                        have e1 : wrap64 (-(((zv : Int) + 1).tdiv 2)) = -(((zv : Int) + 1) / 2) := by rw [← i64_wrap, Int.tdiv_eq_ediv_of_nonneg (by omega), IntWalk.i64_in _ (by omega)]
                        go_wp2_with (refine Kd.flat_append_row kInt rfl (w0 := w) w.heap.size rfl _ _ 61 2 0 8 rfl Try.underlying61 (by kernel_rfl) (by decide) (by decide) _ out [-(((zv : Int) + 1) / 2)] _ _ _ rfl rfl (Kd.R_alloc HO.out (.cells #[.int .i64 (-(((zv : Int) + 1) / 2))] 2)) (Kd.R_reads' (flat_lit (d := kInt) rfl wr w.heap.size 2 [-(((zv : Int) + 1) / 2)] HB.out.size (by simp))).2.2 (below_alloc HB.out (.cells #[.int .i64 (-(((zv : Int) + 1) / 2))] 2)) (below_alloc HB.out (.cells #[.int .i64 (-(((zv : Int) + 1) / 2))] 2)).size (by have := HOL.out; show (_ + 1) * 8 ≤ _; omega) ?_; intro v2 w2 hr2 hb2 _ _; have HR2 := Aside0.mk hr2; have HB2 := Aside0.mk hb2; clear hr2 hb2)
                        go_roundg (bs.length + 1 - (j + 1))
                        case measure => omega
                        case rel => exact ⟨j + 1, out ++ [-(((zv : Int) + 1) / 2)], rfl, by omega, by go_num, HR2, HB2, ⟨by rw [HPN.out, HU.out]⟩, ⟨by have := HOL.out; rw [List.length_append]; show _ + 1 ≤ _; omega⟩⟩
        · have pj : ((j : Int) == (bs.length : Int)) = true := beq_iff_eq.2 (by omega)
          have pj2 : decide ((j : Int) = (bs.length : Int)) = true := decide_eq_true (by omega)
          have HN := Aside0.mk (show parse bs = none by rw [HPC.out, parse_none (by intro e; rw [e] at hcl; simp at hcl; omega) (one_none_of (.inl (by omega)))]; rfl)
          go_wp2
          go_ret2
          exact ⟨_, by rw [HN.out]; rfl, (fun ns h => by rw [HN.out] at h; cases h), HB.out⟩
    · have HN := Aside0.mk (show parse bs = some out by
        rw [HP.out, List.drop_of_length_le (by omega), parse_nil]; simp)
      go_wp2
      go_ret2
      exact ⟨_, by rw [HN.out]; rfl, (fun ns h => by rw [HN.out] at h; cases h; exact HO.out), HB.out⟩
end
end Go.Proofs.Ytmjpajaeffhdeaa.L1
