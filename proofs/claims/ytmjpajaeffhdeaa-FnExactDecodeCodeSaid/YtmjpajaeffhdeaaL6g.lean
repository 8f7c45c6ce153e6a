/- DecodeCode of the program. -/
import Derived.Test.YtmjpajaeffhdeaaL6i
namespace Go.Proofs.Ytmjpajaeffhdeaa.L1
open Go.RowKit Go.Proofs.YtmjpajaeffhdeaaW.PrintWords Go.Proofs.YtmjpajaeffhdeaaW.PrintLast Go.Proofs.Ytmjpajaeffhdeaa.B
set_option linter.unusedVariables false
set_option linter.unusedSimpArgs false
attribute [local go_sem] mk_cell mk_frozen
section
variable (w : World)
set_option maxRecDepth 100000 in
set_option maxHeartbeats 4000000 in
theorem impl_DecodeCode (A : Option Addr) (c : Nat) (bs : List Int) (hr : kByte.C w A bs.length bs) (hc : bs.length ≤ c) (hb : ∀ b, b ∈ bs → 0 ≤ b ∧ b < 256) (hl : bs.length ≤ 1048576) :
    Calls Try.prog 31 #[.slice A bs.length c] w fun e w' => ∃ u, e = .returned u ∧ OwnCode w' w.heap.size u (decode bs) ∧ Below w.heap.size w w' := by
  have HR := Aside0.mk hr
  have HB1 := Aside0.mk (below_alloc (below_alloc (Below.refl w.heap.size w) (.cells #[.int .i64 0, .int .i64 0, .slice none 0 0, .slice none 0 0, .slice none 0 0] 32)) (.cells #[.slice A bs.length c, .bool false] 92))
  have hA := al_new w (.cells #[.int .i64 0, .int .i64 0, .slice none 0 0, .slice none 0 0, .slice none 0 0] 32)
  have HA1 := Aside0.mk (blk_box hA (.cells #[.slice A bs.length c, .bool false] 92)); clear hA
  have hD := al_new (w.alloc (.cells #[.int .i64 0, .int .i64 0, .slice none 0 0, .slice none 0 0, .slice none 0 0] 32)) (.cells #[.slice A bs.length c, .bool false] 92); rw [al_size] at hD
  have HD1 := Aside0.mk (show Rd A bs _ (w.heap.size + 1) false bs from ⟨A, c, hD, fun _ h => h, hc, hb⟩)
  have hs1 : ((w.alloc (.cells #[.int .i64 0, .int .i64 0, .slice none 0 0, .slice none 0 0, .slice none 0 0] 32)).alloc (.cells #[.slice A bs.length c, .bool false] 92)).heap.size = w.heap.size + 1 + 1 := by rw [al_size, al_size]
  have HS1 := Aside0.mk hs1
  clear hD hr hc hb hs1
  have HT0 := Aside0.mk (RdState.start bs)
  go_enter Try.func31, Try.ntmps31
  go_wp2_with fail
  refine (rd_number A bs _ (w.heap.size + 1) false bs (Kd.C_below HR.out HB1.out) HD1.out).mono ?_
  rintro e w1 ⟨m0, b0, r0, rfl, hd, hn, hg, hs⟩
  have HT1 := Aside0.mk (HT0.out.num hn (fun h => decode_short (by decide) h))
  have HB2 := Aside0.mk (grown_below HB1.out hg (by omega)); have HA2 := Aside0.mk (blk_grown HA1.out hg (by simp)); have HD2 := Aside0.mk hd; have HS2 := Aside0.mk (hs.trans HS1.out); clear hd hn hg hs HB1 HA1 HD1 HS1 HT0
  go_wp2_with fail
  refine (rd_number A bs _ (w.heap.size + 1) b0 r0 (Kd.C_below HR.out HB2.out) HD2.out).mono ?_
  rintro e w2 ⟨m1, b1, r1, rfl, hd, hn, hg, hs⟩
  have HT2 := Aside0.mk (show RdState bs [m0, m1] b1 r1 from HT1.out.num hn (fun h => decode_short (by simp) h))
  have HB3 := Aside0.mk (grown_below HB2.out hg (by omega)); have HA3 := Aside0.mk (blk_grown HA2.out hg (by simp)); have HD3 := Aside0.mk hd; have HS3 := Aside0.mk (hs.trans HS2.out); clear hd hn hg hs HB2 HA2 HD2 HS2 HT1
  go_wp2_with fail
  have HB4 := Aside0.mk (bel_box (bel_box HB3.out (.cells #[.int .i64 m0, .int .i64 m1, .slice none 0 0, .slice none 0 0, .slice none 0 0] 32)) (.cells #[.int .i64 (0), .int .i64 (0), .int .i64 (0)] 94))
  have HA4 := Aside0.mk (blk_box (blk_box HA3.out (.cells #[.int .i64 m0, .int .i64 m1, .slice none 0 0, .slice none 0 0, .slice none 0 0] 32)) (.cells #[.int .i64 (0), .int .i64 (0), .int .i64 (0)] 94))
  have HC4 := Aside0.mk (blk_box (al_new w2 (.cells #[.int .i64 m0, .int .i64 m1, .slice none 0 0, .slice none 0 0, .slice none 0 0] 32)) (.cells #[.int .i64 (0), .int .i64 (0), .int .i64 (0)] 94))
  have hL := al_new (w2.alloc (.cells #[.int .i64 m0, .int .i64 m1, .slice none 0 0, .slice none 0 0, .slice none 0 0] 32)) (.cells #[.int .i64 (0), .int .i64 (0), .int .i64 (0)] 94); rw [al_size] at hL
  have HL4 := Aside0.mk hL; clear hL
  have HD4 := Aside0.mk (HD3.out.keep ((al_old (by have := HD3.out.lt; rw [al_size]; omega)).trans (al_old HD3.out.lt)) : Rd A bs ((w2.alloc (.cells #[.int .i64 m0, .int .i64 m1, .slice none 0 0, .slice none 0 0, .slice none 0 0] 32)).alloc (.cells #[.int .i64 (0), .int .i64 (0), .int .i64 (0)] 94)) (w.heap.size + 1) b1 r1)
  clear HB3 HA3 HD3
  go_loopg [15] 4 (fun q v15 wr => ∃ (i : Nat) (ys : List Int) (bad : Bool) (rest : List Int), q = 4 - i ∧ i ≤ 3 ∧ v15 = .int .i64 i ∧ ys.length = i ∧ Aside0 (RdState bs (m0 :: m1 :: ys) bad rest) ∧ Aside0 (bad = false → ∀ k, k < i → inB (ys.getD k 0) 0 16384 = true) ∧ Aside0 (Rd A bs wr (w.heap.size + 1) bad rest) ∧ Aside0 (Below w.heap.size w wr) ∧ Aside0 (wr.heap[w.heap.size]? = some (.cells #[.int .i64 0, .int .i64 0, .slice none 0 0, .slice none 0 0, .slice none 0 0] 32)) ∧ Aside0 (wr.heap[w2.heap.size]? = some (.cells #[.int .i64 m0, .int .i64 m1, .slice none 0 0, .slice none 0 0, .slice none 0 0] 32)) ∧ Aside0 (wr.heap[w2.heap.size + 1]? = some (.cells #[.int .i64 (ys.getD 0 0), .int .i64 (ys.getD 1 0), .int .i64 (ys.getD 2 0)] 94)))
  case atStart => exact ⟨0, [], b1, r1, by omega, by omega, rfl, rfl, HT2, ⟨fun _ k hk => absurd hk (Nat.not_lt_zero _)⟩, HD4, HB4, HA4, HC4, HL4⟩
  case round =>
    rename World => wa
    obtain ⟨i, ys, bad, rest, rfl, hi, rfl, hyl, HT, HI, HD, HB, HA, HC, HL⟩ := hrel
    clear HT2 HD4 HB4 HA4 HC4 HL4
    by_cases hlt : i < 3
    · have HYL := Aside0.mk hyl; clear hyl
      go_wp2_with fail
      refine (rd_number A bs _ (w.heap.size + 1) bad rest (Kd.C_below HR.out HB.out) HD.out).mono ?_
      rintro e w4 ⟨m, bad1, rest1, rfl, hd, hn, hg, hs⟩
      have HT1 := Aside0.mk (show RdState bs (m0 :: m1 :: (ys ++ [m])) bad1 rest1 from HT.out.num hn (fun h => decode_short (by have := HYL.out; simp; omega) h))
      have HI1 := Aside0.mk (show bad1 = false → ∀ k, k < i → inB (ys.getD k 0) 0 16384 = true from fun hb => HI.out (by
        unfold NumOk at hn
        cases ho : one rest with
        | none => rw [ho] at hn; rw [hn] at hb; cases hb
        | some p => rw [ho] at hn; rw [← hn.2.2]; exact hb))
      have hsz := HS3.out
      have HB5 := Aside0.mk (grown_below HB.out hg (by omega))
      have HA5 := Aside0.mk (blk_grown HA.out hg (by simp))
      have HC5 := Aside0.mk (blk_grown HC.out hg (by intro h; injection h with h; omega))
      have HL5 := Aside0.mk (blk_grown HL.out hg (by intro h; injection h with h; omega))
      obtain ⟨R', rc', hrd1, hrd2, hrd3, hrd4⟩ := hd
      have HRB := Aside0.mk hrd1; have HRX := Aside0.mk (And.intro hrd2 (And.intro hrd3 hrd4)); clear hrd1 hrd2 hrd3 hrd4 hn hg hs hsz HT HI HD HB HA HC HL
      have hne1 : w.heap.size ≠ w2.heap.size := by have := HS3.out; omega
      have hne2 : w2.heap.size ≠ w.heap.size := by have := HS3.out; omega
      rcases (show i = 0 ∨ i = 1 ∨ i = 2 by omega) with rfl | rfl | rfl
      · obtain rfl : ys = [] := List.eq_nil_of_length_eq_zero HYL.out
        obtain ⟨l1, l2⟩ := lay (Below.refl _ _) HL5.out
        obtain ⟨d1, d2⟩ := lay (Below.refl _ _) HRB.out
        cases bad1 with
        | true =>
          go_wp2_with fail
          clear l1 l2 d1 d2
          go_roundg (4 - (0 + 1))
          case measure => omega
          case rel =>
            have hs3 := HS3.out
            refine ⟨1, [m], true, rest1, rfl, by omega, rfl, rfl, ⟨HT1.out⟩, ⟨fun h => by cases h⟩, ⟨⟨R', rc', ?_, HRX.out⟩⟩, ⟨?_⟩, ⟨?_⟩, ⟨?_⟩, ⟨?_⟩⟩
            · have h := blk_set (blk_far (p := ⟨w2.heap.size + 1, 0, none⟩) HRB.out (by simp only; omega) (.int .i64 m)) 1 (.bool true)
              simpa using h
            · exact bel_set (bel_set HB5.out (by omega) _) (by omega) _
            · exact blk_far (p := ⟨w.heap.size + 1, 1, none⟩) (blk_far (p := ⟨w2.heap.size + 1, 0, none⟩) HA5.out (by simp only; omega) (.int .i64 m)) (by simp only; omega) (.bool true)
            · exact blk_far (p := ⟨w.heap.size + 1, 1, none⟩) (blk_far (p := ⟨w2.heap.size + 1, 0, none⟩) HC5.out (by simp only; omega) (.int .i64 m)) (by simp only; omega) (.bool true)
            · have h := blk_far (p := ⟨w.heap.size + 1, 1, none⟩) (blk_set HL5.out 0 (.int .i64 m)) (by simp only; omega) (.bool true)
              simpa using h
        | false =>
          go_wp2_with fail
          go_at_call 59
          refine (impl_within _ _ _ _).mono ?_
          rintro e w' ⟨rfl, rfl⟩
          cases hin : inB m 0 16384 with
          | true =>
            have HIN := Aside0.mk hin; clear hin
            go_wp2_with fail
            clear l1 l2 d1 d2
            go_roundg (4 - (0 + 1))
            case measure => omega
            case rel =>
              have hs3 := HS3.out
              refine ⟨1, [m], false, rest1, rfl, by omega, rfl, rfl, ⟨HT1.out⟩, ⟨fun _ k hk => by rcases (show k = 0 by omega) with rfl; exact HIN.out⟩, ⟨⟨R', rc', ?_, HRX.out⟩⟩, ⟨?_⟩, ⟨?_⟩, ⟨?_⟩, ⟨?_⟩⟩
              · have h := blk_set (blk_far (p := ⟨w2.heap.size + 1, 0, none⟩) HRB.out (by simp only; omega) (.int .i64 m)) 1 (.bool false)
                simpa using h
              · exact bel_set (bel_set HB5.out (by omega) _) (by omega) _
              · exact blk_far (p := ⟨w.heap.size + 1, 1, none⟩) (blk_far (p := ⟨w2.heap.size + 1, 0, none⟩) HA5.out (by simp only; omega) (.int .i64 m)) (by simp only; omega) (.bool false)
              · exact blk_far (p := ⟨w.heap.size + 1, 1, none⟩) (blk_far (p := ⟨w2.heap.size + 1, 0, none⟩) HC5.out (by simp only; omega) (.int .i64 m)) (by simp only; omega) (.bool false)
              · have h := blk_far (p := ⟨w.heap.size + 1, 1, none⟩) (blk_set HL5.out 0 (.int .i64 m)) (by simp only; omega) (.bool false)
                simpa using h
          | false =>
            have HBD := Aside0.mk (decode_len (i := 2) (HT1.out.1 rfl) (by simp) (by omega) (by omega) (show inB ((m0 :: m1 :: [m]).getD 2 0) 0 16384 = false from hin)); clear hin
            go_wp2_with fail
            clear l1 l2 d1 d2
            go_roundg (4 - (0 + 1))
            case measure => omega
            case rel =>
              have hs3 := HS3.out
              refine ⟨1, [m], true, rest1, rfl, by omega, rfl, rfl, ⟨⟨(fun h => by cases h), fun _ => HBD.out⟩⟩, ⟨fun h => by cases h⟩, ⟨⟨R', rc', ?_, HRX.out⟩⟩, ⟨?_⟩, ⟨?_⟩, ⟨?_⟩, ⟨?_⟩⟩
              · have h := blk_set (blk_far (p := ⟨w2.heap.size + 1, 0, none⟩) HRB.out (by simp only; omega) (.int .i64 m)) 1 (.bool true)
                simpa using h
              · exact bel_set (bel_set HB5.out (by omega) _) (by omega) _
              · exact blk_far (p := ⟨w.heap.size + 1, 1, none⟩) (blk_far (p := ⟨w2.heap.size + 1, 0, none⟩) HA5.out (by simp only; omega) (.int .i64 m)) (by simp only; omega) (.bool true)
              · exact blk_far (p := ⟨w.heap.size + 1, 1, none⟩) (blk_far (p := ⟨w2.heap.size + 1, 0, none⟩) HC5.out (by simp only; omega) (.int .i64 m)) (by simp only; omega) (.bool true)
              · have h := blk_far (p := ⟨w.heap.size + 1, 1, none⟩) (blk_set HL5.out 0 (.int .i64 m)) (by simp only; omega) (.bool true)
                simpa using h
      · obtain ⟨a0, rfl⟩ : ∃ a0, ys = [a0] := by have h := HYL.out; match ys, h with | [q], _ => exact ⟨q, rfl⟩
        obtain ⟨l1, l2⟩ := lay (Below.refl _ _) HL5.out
        obtain ⟨d1, d2⟩ := lay (Below.refl _ _) HRB.out
        cases bad1 with
        | true =>
          go_wp2_with fail
          clear l1 l2 d1 d2
          go_roundg (4 - (1 + 1))
          case measure => omega
          case rel =>
            have hs3 := HS3.out
            refine ⟨2, [a0, m], true, rest1, rfl, by omega, rfl, rfl, ⟨HT1.out⟩, ⟨fun h => by cases h⟩, ⟨⟨R', rc', ?_, HRX.out⟩⟩, ⟨?_⟩, ⟨?_⟩, ⟨?_⟩, ⟨?_⟩⟩
            · have h := blk_set (blk_far (p := ⟨w2.heap.size + 1, 1, none⟩) HRB.out (by simp only; omega) (.int .i64 m)) 1 (.bool true)
              simpa using h
            · exact bel_set (bel_set HB5.out (by omega) _) (by omega) _
            · exact blk_far (p := ⟨w.heap.size + 1, 1, none⟩) (blk_far (p := ⟨w2.heap.size + 1, 1, none⟩) HA5.out (by simp only; omega) (.int .i64 m)) (by simp only; omega) (.bool true)
            · exact blk_far (p := ⟨w.heap.size + 1, 1, none⟩) (blk_far (p := ⟨w2.heap.size + 1, 1, none⟩) HC5.out (by simp only; omega) (.int .i64 m)) (by simp only; omega) (.bool true)
            · have h := blk_far (p := ⟨w.heap.size + 1, 1, none⟩) (blk_set HL5.out 1 (.int .i64 m)) (by simp only; omega) (.bool true)
              simpa using h
        | false =>
          go_wp2_with fail
          go_at_call 59
          refine (impl_within _ _ _ _).mono ?_
          rintro e w' ⟨rfl, rfl⟩
          cases hin : inB m 0 16384 with
          | true =>
            have HIN := Aside0.mk hin; clear hin
            go_wp2_with fail
            clear l1 l2 d1 d2
            go_roundg (4 - (1 + 1))
            case measure => omega
            case rel =>
              have hs3 := HS3.out
              refine ⟨2, [a0, m], false, rest1, rfl, by omega, rfl, rfl, ⟨HT1.out⟩, ⟨fun _ k hk => by rcases (show k = 0 ∨ k = 1 by omega) with rfl | rfl; exact HI1.out (by first | exact rfl | trivial) 0 (by omega); exact HIN.out⟩, ⟨⟨R', rc', ?_, HRX.out⟩⟩, ⟨?_⟩, ⟨?_⟩, ⟨?_⟩, ⟨?_⟩⟩
              · have h := blk_set (blk_far (p := ⟨w2.heap.size + 1, 1, none⟩) HRB.out (by simp only; omega) (.int .i64 m)) 1 (.bool false)
                simpa using h
              · exact bel_set (bel_set HB5.out (by omega) _) (by omega) _
              · exact blk_far (p := ⟨w.heap.size + 1, 1, none⟩) (blk_far (p := ⟨w2.heap.size + 1, 1, none⟩) HA5.out (by simp only; omega) (.int .i64 m)) (by simp only; omega) (.bool false)
              · exact blk_far (p := ⟨w.heap.size + 1, 1, none⟩) (blk_far (p := ⟨w2.heap.size + 1, 1, none⟩) HC5.out (by simp only; omega) (.int .i64 m)) (by simp only; omega) (.bool false)
              · have h := blk_far (p := ⟨w.heap.size + 1, 1, none⟩) (blk_set HL5.out 1 (.int .i64 m)) (by simp only; omega) (.bool false)
                simpa using h
          | false =>
            have HBD := Aside0.mk (decode_len (i := 3) (HT1.out.1 rfl) (by simp) (by omega) (by omega) (show inB ((m0 :: m1 :: [a0, m]).getD 3 0) 0 16384 = false from hin)); clear hin
            go_wp2_with fail
            clear l1 l2 d1 d2
            go_roundg (4 - (1 + 1))
            case measure => omega
            case rel =>
              have hs3 := HS3.out
              refine ⟨2, [a0, m], true, rest1, rfl, by omega, rfl, rfl, ⟨⟨(fun h => by cases h), fun _ => HBD.out⟩⟩, ⟨fun h => by cases h⟩, ⟨⟨R', rc', ?_, HRX.out⟩⟩, ⟨?_⟩, ⟨?_⟩, ⟨?_⟩, ⟨?_⟩⟩
              · have h := blk_set (blk_far (p := ⟨w2.heap.size + 1, 1, none⟩) HRB.out (by simp only; omega) (.int .i64 m)) 1 (.bool true)
                simpa using h
              · exact bel_set (bel_set HB5.out (by omega) _) (by omega) _
              · exact blk_far (p := ⟨w.heap.size + 1, 1, none⟩) (blk_far (p := ⟨w2.heap.size + 1, 1, none⟩) HA5.out (by simp only; omega) (.int .i64 m)) (by simp only; omega) (.bool true)
              · exact blk_far (p := ⟨w.heap.size + 1, 1, none⟩) (blk_far (p := ⟨w2.heap.size + 1, 1, none⟩) HC5.out (by simp only; omega) (.int .i64 m)) (by simp only; omega) (.bool true)
              · have h := blk_far (p := ⟨w.heap.size + 1, 1, none⟩) (blk_set HL5.out 1 (.int .i64 m)) (by simp only; omega) (.bool true)
                simpa using h
      · obtain ⟨a0, a1, rfl⟩ : ∃ a0 a1, ys = [a0, a1] := by have h := HYL.out; match ys, h with | [q, r], _ => exact ⟨q, r, rfl⟩
        obtain ⟨l1, l2⟩ := lay (Below.refl _ _) HL5.out
        obtain ⟨d1, d2⟩ := lay (Below.refl _ _) HRB.out
        cases bad1 with
        | true =>
          go_wp2_with fail
          clear l1 l2 d1 d2
          go_roundg (4 - (2 + 1))
          case measure => omega
          case rel =>
            have hs3 := HS3.out
            refine ⟨3, [a0, a1, m], true, rest1, rfl, by omega, rfl, rfl, ⟨HT1.out⟩, ⟨fun h => by cases h⟩, ⟨⟨R', rc', ?_, HRX.out⟩⟩, ⟨?_⟩, ⟨?_⟩, ⟨?_⟩, ⟨?_⟩⟩
            · have h := blk_set (blk_far (p := ⟨w2.heap.size + 1, 2, none⟩) HRB.out (by simp only; omega) (.int .i64 m)) 1 (.bool true)
              simpa using h
            · exact bel_set (bel_set HB5.out (by omega) _) (by omega) _
            · exact blk_far (p := ⟨w.heap.size + 1, 1, none⟩) (blk_far (p := ⟨w2.heap.size + 1, 2, none⟩) HA5.out (by simp only; omega) (.int .i64 m)) (by simp only; omega) (.bool true)
            · exact blk_far (p := ⟨w.heap.size + 1, 1, none⟩) (blk_far (p := ⟨w2.heap.size + 1, 2, none⟩) HC5.out (by simp only; omega) (.int .i64 m)) (by simp only; omega) (.bool true)
            · have h := blk_far (p := ⟨w.heap.size + 1, 1, none⟩) (blk_set HL5.out 2 (.int .i64 m)) (by simp only; omega) (.bool true)
              simpa using h
        | false =>
          go_wp2_with fail
          go_at_call 59
          refine (impl_within _ _ _ _).mono ?_
          rintro e w' ⟨rfl, rfl⟩
          cases hin : inB m 0 16384 with
          | true =>
            have HIN := Aside0.mk hin; clear hin
            go_wp2_with fail
            clear l1 l2 d1 d2
            go_roundg (4 - (2 + 1))
            case measure => omega
            case rel =>
              have hs3 := HS3.out
              refine ⟨3, [a0, a1, m], false, rest1, rfl, by omega, rfl, rfl, ⟨HT1.out⟩, ⟨fun _ k hk => by rcases (show k = 0 ∨ k = 1 ∨ k = 2 by omega) with rfl | rfl | rfl; exact HI1.out (by first | exact rfl | trivial) 0 (by omega); exact HI1.out (by first | exact rfl | trivial) 1 (by omega); exact HIN.out⟩, ⟨⟨R', rc', ?_, HRX.out⟩⟩, ⟨?_⟩, ⟨?_⟩, ⟨?_⟩, ⟨?_⟩⟩
              · have h := blk_set (blk_far (p := ⟨w2.heap.size + 1, 2, none⟩) HRB.out (by simp only; omega) (.int .i64 m)) 1 (.bool false)
                simpa using h
              · exact bel_set (bel_set HB5.out (by omega) _) (by omega) _
              · exact blk_far (p := ⟨w.heap.size + 1, 1, none⟩) (blk_far (p := ⟨w2.heap.size + 1, 2, none⟩) HA5.out (by simp only; omega) (.int .i64 m)) (by simp only; omega) (.bool false)
              · exact blk_far (p := ⟨w.heap.size + 1, 1, none⟩) (blk_far (p := ⟨w2.heap.size + 1, 2, none⟩) HC5.out (by simp only; omega) (.int .i64 m)) (by simp only; omega) (.bool false)
              · have h := blk_far (p := ⟨w.heap.size + 1, 1, none⟩) (blk_set HL5.out 2 (.int .i64 m)) (by simp only; omega) (.bool false)
                simpa using h
          | false =>
            have HBD := Aside0.mk (decode_len (i := 4) (HT1.out.1 rfl) (by simp) (by omega) (by omega) (show inB ((m0 :: m1 :: [a0, a1, m]).getD 4 0) 0 16384 = false from hin)); clear hin
            go_wp2_with fail
            clear l1 l2 d1 d2
            go_roundg (4 - (2 + 1))
            case measure => omega
            case rel =>
              have hs3 := HS3.out
              refine ⟨3, [a0, a1, m], true, rest1, rfl, by omega, rfl, rfl, ⟨⟨(fun h => by cases h), fun _ => HBD.out⟩⟩, ⟨fun h => by cases h⟩, ⟨⟨R', rc', ?_, HRX.out⟩⟩, ⟨?_⟩, ⟨?_⟩, ⟨?_⟩, ⟨?_⟩⟩
              · have h := blk_set (blk_far (p := ⟨w2.heap.size + 1, 2, none⟩) HRB.out (by simp only; omega) (.int .i64 m)) 1 (.bool true)
                simpa using h
              · exact bel_set (bel_set HB5.out (by omega) _) (by omega) _
              · exact blk_far (p := ⟨w.heap.size + 1, 1, none⟩) (blk_far (p := ⟨w2.heap.size + 1, 2, none⟩) HA5.out (by simp only; omega) (.int .i64 m)) (by simp only; omega) (.bool true)
              · exact blk_far (p := ⟨w.heap.size + 1, 1, none⟩) (blk_far (p := ⟨w2.heap.size + 1, 2, none⟩) HC5.out (by simp only; omega) (.int .i64 m)) (by simp only; omega) (.bool true)
              · have h := blk_far (p := ⟨w.heap.size + 1, 1, none⟩) (blk_set HL5.out 2 (.int .i64 m)) (by simp only; omega) (.bool true)
                simpa using h
    -- LAST
    · obtain rfl : i = 3 := by omega
      obtain ⟨a0, a1, a2, rfl⟩ : ∃ a0 a1 a2, ys = [a0, a1, a2] := by match ys, hyl with | [x, y, z], _ => exact ⟨x, y, z, rfl⟩
      clear hyl hi hlt
      have H5 := Aside0.mk (show RdState bs [m0, m1, a0, a1, a2] bad rest from HT.out)
      have HIN := Aside0.mk (show bad = false → (0 ≤ a0 ∧ a0 ≤ 16384) ∧ (0 ≤ a1 ∧ a1 ≤ 16384) ∧ (0 ≤ a2 ∧ a2 ≤ 16384) from fun h => ⟨(inB_iff _ _ _).1 (HI.out h 0 (by omega)), (inB_iff _ _ _).1 (HI.out h 1 (by omega)), (inB_iff _ _ _).1 (HI.out h 2 (by omega))⟩)
      have S0 := Aside0.mk (show DSt w A bs w2.heap.size wa.heap.size m0 m1 a0 a1 a2 (wa.alloc (.cells #[.pointer (some ⟨w2.heap.size, 2, none⟩), .pointer (some ⟨w2.heap.size, 3, none⟩), .pointer (some ⟨w2.heap.size, 4, none⟩)] 95)) bad rest [m0, m1, a0, a1, a2] (.slice none 0 0) (.slice none 0 0) (.slice none 0 0) [] [] [] (wa.alloc (.cells #[.pointer (some ⟨w2.heap.size, 2, none⟩), .pointer (some ⟨w2.heap.size, 3, none⟩), .pointer (some ⟨w2.heap.size, 4, none⟩)] 95)).heap.size (wa.alloc (.cells #[.pointer (some ⟨w2.heap.size, 2, none⟩), .pointer (some ⟨w2.heap.size, 3, none⟩), .pointer (some ⟨w2.heap.size, 4, none⟩)] 95)).heap.size from ⟨HD.out.keep (al_old HD.out.lt), HT.out, bel_box HB.out _, blk_box HA.out _, blk_box HL.out _, al_new _ _, blk_box HC.out _, by have := HS3.out; omega, by have := blk_lt HL.out; omega, Nat.le_refl _, Nat.le_refl _, Kd.R_nil _ _ _ _ _, Kd.R_nil _ _ _ _ _, Kd.R_nil _ _ _ _ _⟩)
      have HBAD := Aside0.mk (show bad = false → bad = false from fun h => h)
      obtain ⟨b5, hb5⟩ : ∃ b5, bad = b5 := ⟨_, rfl⟩; obtain ⟨q5, hq5⟩ : ∃ q5, rest = q5 := ⟨_, rfl⟩
      clear HT HI HD HB HA HC HL
      go_wp2_with fail
      subst hb5 hq5
      go_loopg [37] 4 (fun q v37 wr => ∃ (k : Nat) (bb : Bool) (rr xs : List Int) (s0 s1 s2 : Value) (r0 r1 r2 : List Ins) (c1 c2 n0 n1 n2 : Nat), q = 4 - k ∧ k ≤ 3 ∧ v37 = .int .i64 k ∧ Aside0 (DSt w A bs w2.heap.size wa.heap.size m0 m1 a0 a1 a2 wr bb rr xs s0 s1 s2 r0 r1 r2 c1 c2) ∧ Aside0 (Sg m0 m1 a0 a1 a2 bad bb xs r0 r1 r2 n0 n1 n2) ∧ Aside0 (AtStage a0 a1 a2 bb k s0 s1 s2 r0 r1 r2 n0 n1 n2))
      case atStart => exact ⟨0, bad, rest, _, _, _, _, _, _, _, _, _, 0, 0, 0, by omega, by omega, rfl, S0, ⟨Sg.start⟩, ⟨AtStage.start⟩⟩
      case round =>
        rename World => wb
        obtain ⟨k, bb, rr, xs, s0, s1, s2, r0, r1, r2, c1, c2, n0, n1, n2, rfl, hk, rfl, HS, HG, HAT⟩ := hrel
        clear S0
        rcases (show k = 0 ∨ k = 1 ∨ k = 2 ∨ k = 3 by omega) with rfl | rfl | rfl | rfl
        · obtain ⟨rfl, rfl, rfl, rfl, rfl, rfl, rfl, rfl, rfl⟩ := HAT.out.at0
          clear HAT hk
          obtain ⟨l1, l2⟩ := lay (Below.refl _ _) HS.out.ptr
          obtain ⟨d1, d2⟩ := lay (Below.refl _ _) HS.out.len
          go_wp2_with fail
          clear l1 l2 d1 d2
          go_loopg [9] (a0.toNat + 1) (fun q v9 wr => ∃ (j : Nat) (bb : Bool) (rr xs : List Int) (v : Value) (r : List Ins) (c1 c2 : Nat), q = a0.toNat + 1 - j ∧ j ≤ a0.toNat ∧ v9 = .int .i64 (a0 - j) ∧ Aside0 (DSt w A bs w2.heap.size wa.heap.size m0 m1 a0 a1 a2 wr bb rr xs v (.slice none 0 0) (.slice none 0 0) r [] [] c1 c2) ∧ Aside0 (Sg m0 m1 a0 a1 a2 bad bb xs r [] [] j 0 0) ∧ Aside0 True)
          case atStart => exact ⟨0, bb, rr, xs, _, _, _, _, by omega, by omega, by go_num, HS, HG, ⟨trivial⟩⟩
          case round =>
            rename World => wc
            clear HS HG
            obtain ⟨j, bb, rr, xs, v, r, c1, c2, rfl, hj, rfl, HS, HG, HPRE⟩ := hrel
            obtain ⟨E, e, rfl⟩ := Kd.R_slice HS.out.row0
            obtain ⟨Q, qc, hrd1, hrd2⟩ := HS.out.rd
            obtain ⟨l1, l2⟩ := lay (Below.refl _ _) hrd1
            clear hrd1 hrd2
            by_cases hgo : j < a0.toNat ∧ bb = false
            · obtain ⟨hlt, rfl⟩ := hgo
              have hin := HIN.out (HG.out.good rfl)
              have hlt1 : (0 : Int) < a0 - (j : Int) := by omega
              have hgd := HG.out.len
              have HX := Aside0.mk (show ((xs.length + 4 : Nat) : Int) ≤ 5 + 4 * (a0 + a1 + a2) by omega)
              have HRL := Aside0.mk (show r.length ≤ 16384 by rw [HG.out.rlen0 rfl]; omega)
              have ha1 : a0 ≤ 16384 := by omega
              have ha0 : 0 ≤ a0 := by omega
              clear hin hgd
              go_wp2_with fail
              clear l1 l2
              refine start_ (n := 13) (S := fun w' => w'.cell? ⟨w2.heap.size, 2, none⟩ = some (.slice E r.length e)) (ds := [10, 12]) #[false, false, false, false, false, false, false, false, false, false, false, false, false] (by kernel_rfl) rfl rfl (DSt.cell0 (HS.out.below (below_drew (Below.refl _ _)))) (fun hHeld => ?_)
              refine pure_ (i := 0) (N := some 54) (v := ?_) (a' := ?_) #[true, false, false, false, false, false, false, false, false, false, false, false, false] rfl rfl (by kernel_rfl) (fun _ _ _ h => h) (Or.inl ⟨by rfl, ?_⟩) ?_ ?_
              rotate_left
              · intro w'
                go_simp
                with_reducible rfl
              rotate_left
              · simp only [Act.put, List.setIfInBounds_toArray, List.set_cons_zero, List.set_cons_succ, i64_w, i32_w]
                rfl
              refine pure_ (i := 1) (N := some 55) (v := ?_) (a' := ?_) #[true, true, false, false, false, false, false, false, false, false, false, false, false] rfl rfl (by kernel_rfl) (fun _ _ _ h => h) (Or.inl ⟨by rfl, ?_⟩) ?_ ?_
              rotate_left
              · intro w'
                go_simp
                with_reducible rfl
              rotate_left
              · simp only [Act.put, List.setIfInBounds_toArray, List.set_cons_zero, List.set_cons_succ, i64_w, i32_w]
                rfl
              refine pure_ (i := 2) (N := some 56) (v := ?_) (a' := ?_) #[true, true, true, false, false, false, false, false, false, false, false, false, false] rfl rfl (by kernel_rfl) (fun _ _ _ h => h) (Or.inl ⟨by rfl, ?_⟩) ?_ ?_
              rotate_left
              · intro w'
                go_simp
                with_reducible rfl
              rotate_left
              · simp only [Act.put, List.setIfInBounds_toArray, List.set_cons_zero, List.set_cons_succ, i64_w, i32_w]
                rfl
              refine take_ (i := 3) (N := some 57) (v := ?_) (a' := ?_) #[true, true, true, true, false, false, false, false, false, false, false, false, false] rfl rfl (by kernel_rfl) (fun _ _ _ h => h) (Or.inl ⟨by rfl, ?_⟩) hHeld ?_ ?_
              rotate_left
              · intro w' s0
                go_simp
                with_reducible rfl
              rotate_left
              · simp only [Act.put, List.setIfInBounds_toArray, List.set_cons_zero, List.set_cons_succ, i64_w, i32_w]
                rfl
              refine one_ (i := 4) (N := some 58) #[true, true, true, true, true, false, false, false, false, false, false, false, false] rfl rfl (by kernel_rfl) (by decide) (fun K hK => ?_)
              refine goes_ Try.func68 (by kernel_rfl) rfl #[.pointer (some ⟨w.heap.size + 1, 0, none⟩)] (by rfl) rfl rfl (by simp only [List.map_toArray, List.map_cons, List.map_nil]; rfl) ?_
              with_reducible refine (rd_number A bs _ (w.heap.size + 1) false rr (Kd.C_below HR.out (HS.out.below (below_drew (Below.refl _ _))).bel) (HS.out.below (below_drew (Below.refl _ _))).rd).mono ?_
              rintro e x0 ⟨y0, b0, t0, rfl, hd, hn, hg, hs⟩
              refine ⟨_, rfl, ?_⟩
              have N0 := Aside0.mk (DSt.number (HS.out.below (below_drew (Below.refl _ _))) H5.out (by have := HX.out; first | omega | (simp only [List.length_append, List.length_cons, List.length_nil]; omega)) hd hn hg hs); clear hd hn hg hs
              refine hK.out _ _ (DSt.cell0 N0.out) (fun hHeld => ?_)
              clear hK K
              refine norm_ (a' := ?_) ?_ ?_
              rotate_left
              · show Act.put _ (some 58) _ = _
                simp only [Act.put, List.setIfInBounds_toArray, List.set_cons_zero, List.set_cons_succ, i64_w, i32_w]
                rfl
              refine one_ (i := 5) (N := some 59) #[true, true, true, true, true, true, false, false, false, false, false, false, false] rfl rfl (by kernel_rfl) (by decide) (fun K hK => ?_)
              refine goes_ Try.func68 (by kernel_rfl) rfl #[.pointer (some ⟨w.heap.size + 1, 0, none⟩)] (by rfl) rfl rfl (by simp only [List.map_toArray, List.map_cons, List.map_nil]; rfl) ?_
              with_reducible refine (rd_number A bs _ (w.heap.size + 1) b0 t0 (Kd.C_below HR.out N0.out.bel) N0.out.rd).mono ?_
              rintro e x1 ⟨y1, b1, t1, rfl, hd, hn, hg, hs⟩
              refine ⟨_, rfl, ?_⟩
              have N1 := Aside0.mk (DSt.number N0.out H5.out (by have := HX.out; first | omega | (simp only [List.length_append, List.length_cons, List.length_nil]; omega)) hd hn hg hs); clear hd hn hg hs
              refine hK.out _ _ (DSt.cell0 N1.out) (fun hHeld => ?_)
              clear hK K
              refine norm_ (a' := ?_) ?_ ?_
              rotate_left
              · show Act.put _ (some 59) _ = _
                simp only [Act.put, List.setIfInBounds_toArray, List.set_cons_zero, List.set_cons_succ, i64_w, i32_w]
                rfl
              refine one_ (i := 6) (N := some 60) #[true, true, true, true, true, true, true, false, false, false, false, false, false] rfl rfl (by kernel_rfl) (by decide) (fun K hK => ?_)
              refine goes_ Try.func68 (by kernel_rfl) rfl #[.pointer (some ⟨w.heap.size + 1, 0, none⟩)] (by rfl) rfl rfl (by simp only [List.map_toArray, List.map_cons, List.map_nil]; rfl) ?_
              with_reducible refine (rd_number A bs _ (w.heap.size + 1) b1 t1 (Kd.C_below HR.out N1.out.bel) N1.out.rd).mono ?_
              rintro e x2 ⟨y2, b2, t2, rfl, hd, hn, hg, hs⟩
              refine ⟨_, rfl, ?_⟩
              have N2 := Aside0.mk (DSt.number N1.out H5.out (by have := HX.out; first | omega | (simp only [List.length_append, List.length_cons, List.length_nil]; omega)) hd hn hg hs); clear hd hn hg hs
              refine hK.out _ _ (DSt.cell0 N2.out) (fun hHeld => ?_)
              clear hK K
              refine norm_ (a' := ?_) ?_ ?_
              rotate_left
              · show Act.put _ (some 60) _ = _
                simp only [Act.put, List.setIfInBounds_toArray, List.set_cons_zero, List.set_cons_succ, i64_w, i32_w]
                rfl
              refine one_ (i := 7) (N := some 61) #[true, true, true, true, true, true, true, true, false, false, false, false, false] rfl rfl (by kernel_rfl) (by decide) (fun K hK => ?_)
              refine goes_ Try.func68 (by kernel_rfl) rfl #[.pointer (some ⟨w.heap.size + 1, 0, none⟩)] (by rfl) rfl rfl (by simp only [List.map_toArray, List.map_cons, List.map_nil]; rfl) ?_
              with_reducible refine (rd_number A bs _ (w.heap.size + 1) b2 t2 (Kd.C_below HR.out N2.out.bel) N2.out.rd).mono ?_
              rintro e x3 ⟨y3, b3, t3, rfl, hd, hn, hg, hs⟩
              refine ⟨_, rfl, ?_⟩
              have N3 := Aside0.mk (DSt.number N2.out H5.out (by have := HX.out; first | omega | (simp only [List.length_append, List.length_cons, List.length_nil]; omega)) hd hn hg hs); clear hd hn hg hs
              refine hK.out _ _ (DSt.cell0 N3.out) (fun hHeld => ?_)
              clear hK K
              refine norm_ (a' := ?_) ?_ ?_
              rotate_left
              · show Act.put _ (some 61) _ = _
                simp only [Act.put, List.setIfInBounds_toArray, List.set_cons_zero, List.set_cons_succ, i64_w, i32_w]
                rfl
              refine pure_ (i := 8) (N := some 62) (v := ?_) (a' := ?_) #[true, true, true, true, true, true, true, true, true, false, false, false, false] rfl rfl (by kernel_rfl) (fun _ _ _ h => h) (Or.inl ⟨by rfl, ?_⟩) ?_ ?_
              rotate_left
              · intro w'
                go_simp
                with_reducible rfl
              rotate_left
              · simp only [Act.put, List.setIfInBounds_toArray, List.set_cons_zero, List.set_cons_succ, i64_w, i32_w]
                rfl
              refine one_ (i := 9) (N := some 63) #[true, true, true, true, true, true, true, true, true, true, false, false, false] rfl rfl (by kernel_rfl) (by decide) (fun K hK => ?_)
              refine value_ (w1 := ?_) (v := ?_) (by rfl) rfl ?_ ?_
              rotate_left 2
              · go_simp
                constructor
                · rfl
                · rfl
              refine hK.out _ _ (DSt.cell0 (N3.out.below (below_alloc (Below.refl _ _) (.cells #[.int .i64 y0, .int .i64 y1, .int .i64 y2, .int .i64 y3] 81)))) (fun hHeld => ?_)
              clear hK K
              refine norm_ (a' := ?_) ?_ ?_
              rotate_left
              · show Act.put _ (some 63) _ = _
                simp only [Act.put, List.setIfInBounds_toArray, List.set_cons_zero, List.set_cons_succ, i64_w, i32_w]
                rfl
              refine last_ (i := 10) (N := some 64) #[true, true, true, true, true, true, true, true, true, true, true, false, false] rfl rfl (by kernel_rfl) (by decide) (fun K hK => ?_)
              refine Kd.flat_append_step kIns rfl (w0 := x3.alloc (.cells #[.int .i64 y0, .int .i64 y1, .int .i64 y2, .int .i64 y3] 81)) (wa.heap.size + 1) (by rfl) rfl _ _ 30 81 zIns 32 rfl Try.underlying30 (by kernel_rfl) (by decide) (by decide) _ r [⟨y0, y1, y2, y3⟩] _ _ _ rfl rfl (Kd.R_mono (N3.out.below (below_alloc (Below.refl _ _) (.cells #[.int .i64 y0, .int .i64 y1, .int .i64 y2, .int .i64 y3] 81))).row0 (fun _ _ => trivial)) (Kd.R_reads' (flat_lit (d := kIns) rfl x3 (wa.heap.size + 1) 81 [⟨y0, y1, y2, y3⟩] N3.out.sz (by simp))).2.2 (Below.refl _ _) (N3.out.below (below_alloc (Below.refl _ _) (.cells #[.int .i64 y0, .int .i64 y1, .int .i64 y2, .int .i64 y3] 81))).sz (by have := HRL.out; show (_ + 1) * 32 ≤ _; omega) ?_
              intro v2 w5 hr2 hb2 hg2 hat
              obtain ⟨E2, e2, rfl⟩ := Kd.R_slice hr2
              rw [show (r ++ [(⟨y0, y1, y2, y3⟩ : Ins)]).length = r.length + 1 by simp] at hr2 hat
              have HV := Aside0.mk hr2; have HW := Aside0.mk (DSt.app0 (N3.out.below (below_alloc (Below.refl _ _) (.cells #[.int .i64 y0, .int .i64 y1, .int .i64 y2, .int .i64 y3] 81))) hr2 hb2 hg2 hat)
              obtain ⟨f1, f2⟩ := lay (Below.refl _ _) ((hb2.block w2.heap.size (by have := HS.out.hp; omega)).trans (N3.out.below (below_alloc (Below.refl _ _) (.cells #[.int .i64 y0, .int .i64 y1, .int .i64 y2, .int .i64 y3] 81))).code)
              clear hr2 hb2 hg2 hat
              refine hK.out _ _ ?_
              clear hK K
              refine norm_ (a' := ?_) ?_ ?_
              rotate_left
              · show Act.put _ (some 64) _ = _
                simp only [Act.put, List.setIfInBounds_toArray, List.set_cons_zero, List.set_cons_succ, i64_w, i32_w]
                rfl
              refine pure_ (i := 11) (N := some 65) (v := ?_) (a' := ?_) #[true, true, true, true, true, true, true, true, true, true, true, true, false] rfl rfl (by kernel_rfl) (fun _ _ _ h => h) (Or.inl ⟨by rfl, ?_⟩) ?_ ?_
              rotate_left
              · intro w'
                go_simp
                with_reducible rfl
              rotate_left
              · simp only [Act.put, List.setIfInBounds_toArray, List.set_cons_zero, List.set_cons_succ, i64_w, i32_w]
                rfl
              refine last_ (i := 12) (N := none) #[true, true, true, true, true, true, true, true, true, true, true, true, true] rfl rfl (by kernel_rfl) (by decide) (fun K hK => ?_)
              refine skip_ (w1 := ?_) (by rfl) rfl ?_ ?_
              rotate_left
              · go_simp
                rfl
              refine hK.out _ _ ?_
              clear hK K
              refine done_ (by kernel_rfl) ?_
              clear f1 f2
              have HG2 := Aside0.mk (HG.out.push0 b3 y0 y1 y2 y3)
              go_wp2_with fail
              go_roundg (a0.toNat + 1 - (j + 1))
              case measure => omega
              case rel => exact ⟨j + 1, b3, t3, _, _, _, _, _, rfl, by omega, by go_num, HW, HG2, ⟨trivial⟩⟩
            · by_cases hn : (0 : Int) < a0 - (j : Int)
              obtain rfl : bb = true := by cases bb with | true => rfl | false => exact absurd ⟨by omega, rfl⟩ hgo
              · go_wp2_with fail
                clear l1 l2
                go_roundg (4 - (0 + 1))
                case measure => omega
                case rel => exact ⟨1, true, rr, xs, _, _, _, _, _, _, _, _, j, 0, 0, by omega, by omega, rfl, HS, HG, ⟨.inr (.inl ⟨rfl, (fun h => by cases h), rfl, rfl, rfl, rfl, rfl, rfl⟩)⟩⟩
              · have hfin : bb = false → (j : Int) = a0 := fun h => by have := HIN.out (HG.out.good h); omega
                go_wp2_with fail
                clear l1 l2
                go_roundg (4 - (0 + 1))
                case measure => omega
                case rel => exact ⟨1, bb, rr, xs, _, _, _, _, _, _, _, _, j, 0, 0, by omega, by omega, rfl, HS, HG, ⟨.inr (.inl ⟨rfl, (fun h => (hfin h)), rfl, rfl, rfl, rfl, rfl, rfl⟩)⟩⟩
        · obtain ⟨hpre, rfl, rfl, rfl, rfl, rfl, rfl⟩ := HAT.out.at1; have HPRE := Aside0.mk hpre; clear hpre
          clear HAT hk
          obtain ⟨l1, l2⟩ := lay (Below.refl _ _) HS.out.ptr
          obtain ⟨d1, d2⟩ := lay (Below.refl _ _) HS.out.len
          go_wp2_with fail
          clear l1 l2 d1 d2
          go_loopg [9] (a1.toNat + 1) (fun q v9 wr => ∃ (j : Nat) (bb : Bool) (rr xs : List Int) (v : Value) (r : List Ins) (c1 c2 : Nat), q = a1.toNat + 1 - j ∧ j ≤ a1.toNat ∧ v9 = .int .i64 (a1 - j) ∧ Aside0 (DSt w A bs w2.heap.size wa.heap.size m0 m1 a0 a1 a2 wr bb rr xs s0 v (.slice none 0 0) r0 r [] c1 c2) ∧ Aside0 (Sg m0 m1 a0 a1 a2 bad bb xs r0 r [] n0 j 0) ∧ Aside0 (bb = false → (n0 : Int) = a0))
          case atStart => exact ⟨0, bb, rr, xs, _, _, _, _, by omega, by omega, by go_num, HS, HG, HPRE⟩
          case round =>
            rename World => wc
            clear HS HG HPRE
            obtain ⟨j, bb, rr, xs, v, r, c1, c2, rfl, hj, rfl, HS, HG, HPRE⟩ := hrel
            obtain ⟨E, e, rfl⟩ := Kd.R_slice HS.out.row1
            obtain ⟨Q, qc, hrd1, hrd2⟩ := HS.out.rd
            obtain ⟨l1, l2⟩ := lay (Below.refl _ _) hrd1
            clear hrd1 hrd2
            by_cases hgo : j < a1.toNat ∧ bb = false
            · obtain ⟨hlt, rfl⟩ := hgo
              have hin := HIN.out (HG.out.good rfl)
              have hlt1 : (0 : Int) < a1 - (j : Int) := by omega
              have hgd := HG.out.len
              have hp0 := HPRE.out rfl
              have HX := Aside0.mk (show ((xs.length + 4 : Nat) : Int) ≤ 5 + 4 * (a0 + a1 + a2) by omega)
              have HRL := Aside0.mk (show r.length ≤ 16384 by rw [HG.out.rlen1 rfl]; omega)
              have ha1 : a1 ≤ 16384 := by omega
              have ha0 : 0 ≤ a1 := by omega
              clear hin hgd hp0
              go_wp2_with fail
              clear l1 l2
              refine start_ (n := 13) (S := fun w' => w'.cell? ⟨w2.heap.size, 3, none⟩ = some (.slice E r.length e)) (ds := [10, 12]) #[false, false, false, false, false, false, false, false, false, false, false, false, false] (by kernel_rfl) rfl rfl (DSt.cell1 (HS.out.below (below_drew (Below.refl _ _)))) (fun hHeld => ?_)
              refine pure_ (i := 0) (N := some 54) (v := ?_) (a' := ?_) #[true, false, false, false, false, false, false, false, false, false, false, false, false] rfl rfl (by kernel_rfl) (fun _ _ _ h => h) (Or.inl ⟨by rfl, ?_⟩) ?_ ?_
              rotate_left
              · intro w'
                go_simp
                with_reducible rfl
              rotate_left
              · simp only [Act.put, List.setIfInBounds_toArray, List.set_cons_zero, List.set_cons_succ, i64_w, i32_w]
                rfl
              refine pure_ (i := 1) (N := some 55) (v := ?_) (a' := ?_) #[true, true, false, false, false, false, false, false, false, false, false, false, false] rfl rfl (by kernel_rfl) (fun _ _ _ h => h) (Or.inl ⟨by rfl, ?_⟩) ?_ ?_
              rotate_left
              · intro w'
                go_simp
                with_reducible rfl
              rotate_left
              · simp only [Act.put, List.setIfInBounds_toArray, List.set_cons_zero, List.set_cons_succ, i64_w, i32_w]
                rfl
              refine pure_ (i := 2) (N := some 56) (v := ?_) (a' := ?_) #[true, true, true, false, false, false, false, false, false, false, false, false, false] rfl rfl (by kernel_rfl) (fun _ _ _ h => h) (Or.inl ⟨by rfl, ?_⟩) ?_ ?_
              rotate_left
              · intro w'
                go_simp
                with_reducible rfl
              rotate_left
              · simp only [Act.put, List.setIfInBounds_toArray, List.set_cons_zero, List.set_cons_succ, i64_w, i32_w]
                rfl
              refine take_ (i := 3) (N := some 57) (v := ?_) (a' := ?_) #[true, true, true, true, false, false, false, false, false, false, false, false, false] rfl rfl (by kernel_rfl) (fun _ _ _ h => h) (Or.inl ⟨by rfl, ?_⟩) hHeld ?_ ?_
              rotate_left
              · intro w' s0
                go_simp
                with_reducible rfl
              rotate_left
              · simp only [Act.put, List.setIfInBounds_toArray, List.set_cons_zero, List.set_cons_succ, i64_w, i32_w]
                rfl
              refine one_ (i := 4) (N := some 58) #[true, true, true, true, true, false, false, false, false, false, false, false, false] rfl rfl (by kernel_rfl) (by decide) (fun K hK => ?_)
              refine goes_ Try.func68 (by kernel_rfl) rfl #[.pointer (some ⟨w.heap.size + 1, 0, none⟩)] (by rfl) rfl rfl (by simp only [List.map_toArray, List.map_cons, List.map_nil]; rfl) ?_
              with_reducible refine (rd_number A bs _ (w.heap.size + 1) false rr (Kd.C_below HR.out (HS.out.below (below_drew (Below.refl _ _))).bel) (HS.out.below (below_drew (Below.refl _ _))).rd).mono ?_
              rintro e x0 ⟨y0, b0, t0, rfl, hd, hn, hg, hs⟩
              refine ⟨_, rfl, ?_⟩
              have N0 := Aside0.mk (DSt.number (HS.out.below (below_drew (Below.refl _ _))) H5.out (by have := HX.out; first | omega | (simp only [List.length_append, List.length_cons, List.length_nil]; omega)) hd hn hg hs); clear hd hn hg hs
              refine hK.out _ _ (DSt.cell1 N0.out) (fun hHeld => ?_)
              clear hK K
              refine norm_ (a' := ?_) ?_ ?_
              rotate_left
              · show Act.put _ (some 58) _ = _
                simp only [Act.put, List.setIfInBounds_toArray, List.set_cons_zero, List.set_cons_succ, i64_w, i32_w]
                rfl
              refine one_ (i := 5) (N := some 59) #[true, true, true, true, true, true, false, false, false, false, false, false, false] rfl rfl (by kernel_rfl) (by decide) (fun K hK => ?_)
              refine goes_ Try.func68 (by kernel_rfl) rfl #[.pointer (some ⟨w.heap.size + 1, 0, none⟩)] (by rfl) rfl rfl (by simp only [List.map_toArray, List.map_cons, List.map_nil]; rfl) ?_
              with_reducible refine (rd_number A bs _ (w.heap.size + 1) b0 t0 (Kd.C_below HR.out N0.out.bel) N0.out.rd).mono ?_
              rintro e x1 ⟨y1, b1, t1, rfl, hd, hn, hg, hs⟩
              refine ⟨_, rfl, ?_⟩
              have N1 := Aside0.mk (DSt.number N0.out H5.out (by have := HX.out; first | omega | (simp only [List.length_append, List.length_cons, List.length_nil]; omega)) hd hn hg hs); clear hd hn hg hs
              refine hK.out _ _ (DSt.cell1 N1.out) (fun hHeld => ?_)
              clear hK K
              refine norm_ (a' := ?_) ?_ ?_
              rotate_left
              · show Act.put _ (some 59) _ = _
                simp only [Act.put, List.setIfInBounds_toArray, List.set_cons_zero, List.set_cons_succ, i64_w, i32_w]
                rfl
              refine one_ (i := 6) (N := some 60) #[true, true, true, true, true, true, true, false, false, false, false, false, false] rfl rfl (by kernel_rfl) (by decide) (fun K hK => ?_)
              refine goes_ Try.func68 (by kernel_rfl) rfl #[.pointer (some ⟨w.heap.size + 1, 0, none⟩)] (by rfl) rfl rfl (by simp only [List.map_toArray, List.map_cons, List.map_nil]; rfl) ?_
              with_reducible refine (rd_number A bs _ (w.heap.size + 1) b1 t1 (Kd.C_below HR.out N1.out.bel) N1.out.rd).mono ?_
              rintro e x2 ⟨y2, b2, t2, rfl, hd, hn, hg, hs⟩
              refine ⟨_, rfl, ?_⟩
              have N2 := Aside0.mk (DSt.number N1.out H5.out (by have := HX.out; first | omega | (simp only [List.length_append, List.length_cons, List.length_nil]; omega)) hd hn hg hs); clear hd hn hg hs
              refine hK.out _ _ (DSt.cell1 N2.out) (fun hHeld => ?_)
              clear hK K
              refine norm_ (a' := ?_) ?_ ?_
              rotate_left
              · show Act.put _ (some 60) _ = _
                simp only [Act.put, List.setIfInBounds_toArray, List.set_cons_zero, List.set_cons_succ, i64_w, i32_w]
                rfl
              refine one_ (i := 7) (N := some 61) #[true, true, true, true, true, true, true, true, false, false, false, false, false] rfl rfl (by kernel_rfl) (by decide) (fun K hK => ?_)
              refine goes_ Try.func68 (by kernel_rfl) rfl #[.pointer (some ⟨w.heap.size + 1, 0, none⟩)] (by rfl) rfl rfl (by simp only [List.map_toArray, List.map_cons, List.map_nil]; rfl) ?_
              with_reducible refine (rd_number A bs _ (w.heap.size + 1) b2 t2 (Kd.C_below HR.out N2.out.bel) N2.out.rd).mono ?_
              rintro e x3 ⟨y3, b3, t3, rfl, hd, hn, hg, hs⟩
              refine ⟨_, rfl, ?_⟩
              have N3 := Aside0.mk (DSt.number N2.out H5.out (by have := HX.out; first | omega | (simp only [List.length_append, List.length_cons, List.length_nil]; omega)) hd hn hg hs); clear hd hn hg hs
              refine hK.out _ _ (DSt.cell1 N3.out) (fun hHeld => ?_)
              clear hK K
              refine norm_ (a' := ?_) ?_ ?_
              rotate_left
              · show Act.put _ (some 61) _ = _
                simp only [Act.put, List.setIfInBounds_toArray, List.set_cons_zero, List.set_cons_succ, i64_w, i32_w]
                rfl
              refine pure_ (i := 8) (N := some 62) (v := ?_) (a' := ?_) #[true, true, true, true, true, true, true, true, true, false, false, false, false] rfl rfl (by kernel_rfl) (fun _ _ _ h => h) (Or.inl ⟨by rfl, ?_⟩) ?_ ?_
              rotate_left
              · intro w'
                go_simp
                with_reducible rfl
              rotate_left
              · simp only [Act.put, List.setIfInBounds_toArray, List.set_cons_zero, List.set_cons_succ, i64_w, i32_w]
                rfl
              refine one_ (i := 9) (N := some 63) #[true, true, true, true, true, true, true, true, true, true, false, false, false] rfl rfl (by kernel_rfl) (by decide) (fun K hK => ?_)
              refine value_ (w1 := ?_) (v := ?_) (by rfl) rfl ?_ ?_
              rotate_left 2
              · go_simp
                constructor
                · rfl
                · rfl
              refine hK.out _ _ (DSt.cell1 (N3.out.below (below_alloc (Below.refl _ _) (.cells #[.int .i64 y0, .int .i64 y1, .int .i64 y2, .int .i64 y3] 81)))) (fun hHeld => ?_)
              clear hK K
              refine norm_ (a' := ?_) ?_ ?_
              rotate_left
              · show Act.put _ (some 63) _ = _
                simp only [Act.put, List.setIfInBounds_toArray, List.set_cons_zero, List.set_cons_succ, i64_w, i32_w]
                rfl
              refine last_ (i := 10) (N := some 64) #[true, true, true, true, true, true, true, true, true, true, true, false, false] rfl rfl (by kernel_rfl) (by decide) (fun K hK => ?_)
              refine Kd.flat_append_step kIns rfl (w0 := x3.alloc (.cells #[.int .i64 y0, .int .i64 y1, .int .i64 y2, .int .i64 y3] 81)) (wa.heap.size + 1) (by rfl) rfl _ _ 30 81 zIns 32 rfl Try.underlying30 (by kernel_rfl) (by decide) (by decide) _ r [⟨y0, y1, y2, y3⟩] _ _ _ rfl rfl (Kd.R_mono (N3.out.below (below_alloc (Below.refl _ _) (.cells #[.int .i64 y0, .int .i64 y1, .int .i64 y2, .int .i64 y3] 81))).row1 (fun _ _ => trivial)) (Kd.R_reads' (flat_lit (d := kIns) rfl x3 (wa.heap.size + 1) 81 [⟨y0, y1, y2, y3⟩] N3.out.sz (by simp))).2.2 (Below.refl _ _) (N3.out.below (below_alloc (Below.refl _ _) (.cells #[.int .i64 y0, .int .i64 y1, .int .i64 y2, .int .i64 y3] 81))).sz (by have := HRL.out; show (_ + 1) * 32 ≤ _; omega) ?_
              intro v2 w5 hr2 hb2 hg2 hat
              obtain ⟨E2, e2, rfl⟩ := Kd.R_slice hr2
              rw [show (r ++ [(⟨y0, y1, y2, y3⟩ : Ins)]).length = r.length + 1 by simp] at hr2 hat
              have HV := Aside0.mk hr2; have HW := Aside0.mk (DSt.app1 (N3.out.below (below_alloc (Below.refl _ _) (.cells #[.int .i64 y0, .int .i64 y1, .int .i64 y2, .int .i64 y3] 81))) hr2 hb2 hg2 hat hb2.size)
              obtain ⟨f1, f2⟩ := lay (Below.refl _ _) ((hb2.block w2.heap.size (by have := HS.out.hp; omega)).trans (N3.out.below (below_alloc (Below.refl _ _) (.cells #[.int .i64 y0, .int .i64 y1, .int .i64 y2, .int .i64 y3] 81))).code)
              clear hr2 hb2 hg2 hat
              refine hK.out _ _ ?_
              clear hK K
              refine norm_ (a' := ?_) ?_ ?_
              rotate_left
              · show Act.put _ (some 64) _ = _
                simp only [Act.put, List.setIfInBounds_toArray, List.set_cons_zero, List.set_cons_succ, i64_w, i32_w]
                rfl
              refine pure_ (i := 11) (N := some 65) (v := ?_) (a' := ?_) #[true, true, true, true, true, true, true, true, true, true, true, true, false] rfl rfl (by kernel_rfl) (fun _ _ _ h => h) (Or.inl ⟨by rfl, ?_⟩) ?_ ?_
              rotate_left
              · intro w'
                go_simp
                with_reducible rfl
              rotate_left
              · simp only [Act.put, List.setIfInBounds_toArray, List.set_cons_zero, List.set_cons_succ, i64_w, i32_w]
                rfl
              refine last_ (i := 12) (N := none) #[true, true, true, true, true, true, true, true, true, true, true, true, true] rfl rfl (by kernel_rfl) (by decide) (fun K hK => ?_)
              refine skip_ (w1 := ?_) (by rfl) rfl ?_ ?_
              rotate_left
              · go_simp
                rfl
              refine hK.out _ _ ?_
              clear hK K
              refine done_ (by kernel_rfl) ?_
              clear f1 f2
              have HG2 := Aside0.mk (HG.out.push1 b3 y0 y1 y2 y3)
              go_wp2_with fail
              go_roundg (a1.toNat + 1 - (j + 1))
              case measure => omega
              case rel => exact ⟨j + 1, b3, t3, _, _, _, _, _, rfl, by omega, by go_num, HW, HG2, ⟨fun _ => HPRE.out (by trivial)⟩⟩
            · by_cases hn : (0 : Int) < a1 - (j : Int)
              obtain rfl : bb = true := by cases bb with | true => rfl | false => exact absurd ⟨by omega, rfl⟩ hgo
              · go_wp2_with fail
                clear l1 l2
                go_roundg (4 - (1 + 1))
                case measure => omega
                case rel => exact ⟨2, true, rr, xs, _, _, _, _, _, _, _, _, n0, j, 0, by omega, by omega, rfl, HS, HG, ⟨.inr (.inr (.inl ⟨rfl, (fun h => by cases h), rfl, rfl, rfl⟩))⟩⟩
              · have hfin : bb = false → (j : Int) = a1 := fun h => by have := HIN.out (HG.out.good h); omega
                go_wp2_with fail
                clear l1 l2
                go_roundg (4 - (1 + 1))
                case measure => omega
                case rel => exact ⟨2, bb, rr, xs, _, _, _, _, _, _, _, _, n0, j, 0, by omega, by omega, rfl, HS, HG, ⟨.inr (.inr (.inl ⟨rfl, (fun h => ⟨HPRE.out h, hfin h⟩), rfl, rfl, rfl⟩))⟩⟩
        · obtain ⟨hpre, rfl, rfl, rfl⟩ := HAT.out.at2; have HPRE := Aside0.mk hpre; clear hpre
          clear HAT hk
          obtain ⟨l1, l2⟩ := lay (Below.refl _ _) HS.out.ptr
          obtain ⟨d1, d2⟩ := lay (Below.refl _ _) HS.out.len
          go_wp2_with fail
          clear l1 l2 d1 d2
          go_loopg [9] (a2.toNat + 1) (fun q v9 wr => ∃ (j : Nat) (bb : Bool) (rr xs : List Int) (v : Value) (r : List Ins) (c1 c2 : Nat), q = a2.toNat + 1 - j ∧ j ≤ a2.toNat ∧ v9 = .int .i64 (a2 - j) ∧ Aside0 (DSt w A bs w2.heap.size wa.heap.size m0 m1 a0 a1 a2 wr bb rr xs s0 s1 v r0 r1 r c1 c2) ∧ Aside0 (Sg m0 m1 a0 a1 a2 bad bb xs r0 r1 r n0 n1 j) ∧ Aside0 (bb = false → (n0 : Int) = a0 ∧ (n1 : Int) = a1))
          case atStart => exact ⟨0, bb, rr, xs, _, _, _, _, by omega, by omega, by go_num, HS, HG, HPRE⟩
          case round =>
            rename World => wc
            clear HS HG HPRE
            obtain ⟨j, bb, rr, xs, v, r, c1, c2, rfl, hj, rfl, HS, HG, HPRE⟩ := hrel
            obtain ⟨E, e, rfl⟩ := Kd.R_slice HS.out.row2
            obtain ⟨Q, qc, hrd1, hrd2⟩ := HS.out.rd
            obtain ⟨l1, l2⟩ := lay (Below.refl _ _) hrd1
            clear hrd1 hrd2
            by_cases hgo : j < a2.toNat ∧ bb = false
            · obtain ⟨hlt, rfl⟩ := hgo
              have hin := HIN.out (HG.out.good rfl)
              have hlt1 : (0 : Int) < a2 - (j : Int) := by omega
              have hgd := HG.out.len
              have hp0 := HPRE.out rfl
              have HX := Aside0.mk (show ((xs.length + 4 : Nat) : Int) ≤ 5 + 4 * (a0 + a1 + a2) by omega)
              have HRL := Aside0.mk (show r.length ≤ 16384 by rw [HG.out.rlen2 rfl]; omega)
              have ha1 : a2 ≤ 16384 := by omega
              have ha0 : 0 ≤ a2 := by omega
              clear hin hgd hp0
              go_wp2_with fail
              clear l1 l2
              refine start_ (n := 13) (S := fun w' => w'.cell? ⟨w2.heap.size, 4, none⟩ = some (.slice E r.length e)) (ds := [10, 12]) #[false, false, false, false, false, false, false, false, false, false, false, false, false] (by kernel_rfl) rfl rfl (DSt.cell2 (HS.out.below (below_drew (Below.refl _ _)))) (fun hHeld => ?_)
              refine pure_ (i := 0) (N := some 54) (v := ?_) (a' := ?_) #[true, false, false, false, false, false, false, false, false, false, false, false, false] rfl rfl (by kernel_rfl) (fun _ _ _ h => h) (Or.inl ⟨by rfl, ?_⟩) ?_ ?_
              rotate_left
              · intro w'
                go_simp
                with_reducible rfl
              rotate_left
              · simp only [Act.put, List.setIfInBounds_toArray, List.set_cons_zero, List.set_cons_succ, i64_w, i32_w]
                rfl
              refine pure_ (i := 1) (N := some 55) (v := ?_) (a' := ?_) #[true, true, false, false, false, false, false, false, false, false, false, false, false] rfl rfl (by kernel_rfl) (fun _ _ _ h => h) (Or.inl ⟨by rfl, ?_⟩) ?_ ?_
              rotate_left
              · intro w'
                go_simp
                with_reducible rfl
              rotate_left
              · simp only [Act.put, List.setIfInBounds_toArray, List.set_cons_zero, List.set_cons_succ, i64_w, i32_w]
                rfl
              refine pure_ (i := 2) (N := some 56) (v := ?_) (a' := ?_) #[true, true, true, false, false, false, false, false, false, false, false, false, false] rfl rfl (by kernel_rfl) (fun _ _ _ h => h) (Or.inl ⟨by rfl, ?_⟩) ?_ ?_
              rotate_left
              · intro w'
                go_simp
                with_reducible rfl
              rotate_left
              · simp only [Act.put, List.setIfInBounds_toArray, List.set_cons_zero, List.set_cons_succ, i64_w, i32_w]
                rfl
              refine take_ (i := 3) (N := some 57) (v := ?_) (a' := ?_) #[true, true, true, true, false, false, false, false, false, false, false, false, false] rfl rfl (by kernel_rfl) (fun _ _ _ h => h) (Or.inl ⟨by rfl, ?_⟩) hHeld ?_ ?_
              rotate_left
              · intro w' s0
                go_simp
                with_reducible rfl
              rotate_left
              · simp only [Act.put, List.setIfInBounds_toArray, List.set_cons_zero, List.set_cons_succ, i64_w, i32_w]
                rfl
              refine one_ (i := 4) (N := some 58) #[true, true, true, true, true, false, false, false, false, false, false, false, false] rfl rfl (by kernel_rfl) (by decide) (fun K hK => ?_)
              refine goes_ Try.func68 (by kernel_rfl) rfl #[.pointer (some ⟨w.heap.size + 1, 0, none⟩)] (by rfl) rfl rfl (by simp only [List.map_toArray, List.map_cons, List.map_nil]; rfl) ?_
              with_reducible refine (rd_number A bs _ (w.heap.size + 1) false rr (Kd.C_below HR.out (HS.out.below (below_drew (Below.refl _ _))).bel) (HS.out.below (below_drew (Below.refl _ _))).rd).mono ?_
              rintro e x0 ⟨y0, b0, t0, rfl, hd, hn, hg, hs⟩
              refine ⟨_, rfl, ?_⟩
              have N0 := Aside0.mk (DSt.number (HS.out.below (below_drew (Below.refl _ _))) H5.out (by have := HX.out; first | omega | (simp only [List.length_append, List.length_cons, List.length_nil]; omega)) hd hn hg hs); clear hd hn hg hs
              refine hK.out _ _ (DSt.cell2 N0.out) (fun hHeld => ?_)
              clear hK K
              refine norm_ (a' := ?_) ?_ ?_
              rotate_left
              · show Act.put _ (some 58) _ = _
                simp only [Act.put, List.setIfInBounds_toArray, List.set_cons_zero, List.set_cons_succ, i64_w, i32_w]
                rfl
              refine one_ (i := 5) (N := some 59) #[true, true, true, true, true, true, false, false, false, false, false, false, false] rfl rfl (by kernel_rfl) (by decide) (fun K hK => ?_)
              refine goes_ Try.func68 (by kernel_rfl) rfl #[.pointer (some ⟨w.heap.size + 1, 0, none⟩)] (by rfl) rfl rfl (by simp only [List.map_toArray, List.map_cons, List.map_nil]; rfl) ?_
              with_reducible refine (rd_number A bs _ (w.heap.size + 1) b0 t0 (Kd.C_below HR.out N0.out.bel) N0.out.rd).mono ?_
              rintro e x1 ⟨y1, b1, t1, rfl, hd, hn, hg, hs⟩
              refine ⟨_, rfl, ?_⟩
              have N1 := Aside0.mk (DSt.number N0.out H5.out (by have := HX.out; first | omega | (simp only [List.length_append, List.length_cons, List.length_nil]; omega)) hd hn hg hs); clear hd hn hg hs
              refine hK.out _ _ (DSt.cell2 N1.out) (fun hHeld => ?_)
              clear hK K
              refine norm_ (a' := ?_) ?_ ?_
              rotate_left
              · show Act.put _ (some 59) _ = _
                simp only [Act.put, List.setIfInBounds_toArray, List.set_cons_zero, List.set_cons_succ, i64_w, i32_w]
                rfl
              refine one_ (i := 6) (N := some 60) #[true, true, true, true, true, true, true, false, false, false, false, false, false] rfl rfl (by kernel_rfl) (by decide) (fun K hK => ?_)
              refine goes_ Try.func68 (by kernel_rfl) rfl #[.pointer (some ⟨w.heap.size + 1, 0, none⟩)] (by rfl) rfl rfl (by simp only [List.map_toArray, List.map_cons, List.map_nil]; rfl) ?_
              with_reducible refine (rd_number A bs _ (w.heap.size + 1) b1 t1 (Kd.C_below HR.out N1.out.bel) N1.out.rd).mono ?_
              rintro e x2 ⟨y2, b2, t2, rfl, hd, hn, hg, hs⟩
              refine ⟨_, rfl, ?_⟩
              have N2 := Aside0.mk (DSt.number N1.out H5.out (by have := HX.out; first | omega | (simp only [List.length_append, List.length_cons, List.length_nil]; omega)) hd hn hg hs); clear hd hn hg hs
              refine hK.out _ _ (DSt.cell2 N2.out) (fun hHeld => ?_)
              clear hK K
              refine norm_ (a' := ?_) ?_ ?_
              rotate_left
              · show Act.put _ (some 60) _ = _
                simp only [Act.put, List.setIfInBounds_toArray, List.set_cons_zero, List.set_cons_succ, i64_w, i32_w]
                rfl
              refine one_ (i := 7) (N := some 61) #[true, true, true, true, true, true, true, true, false, false, false, false, false] rfl rfl (by kernel_rfl) (by decide) (fun K hK => ?_)
              refine goes_ Try.func68 (by kernel_rfl) rfl #[.pointer (some ⟨w.heap.size + 1, 0, none⟩)] (by rfl) rfl rfl (by simp only [List.map_toArray, List.map_cons, List.map_nil]; rfl) ?_
              with_reducible refine (rd_number A bs _ (w.heap.size + 1) b2 t2 (Kd.C_below HR.out N2.out.bel) N2.out.rd).mono ?_
              rintro e x3 ⟨y3, b3, t3, rfl, hd, hn, hg, hs⟩
              refine ⟨_, rfl, ?_⟩
              have N3 := Aside0.mk (DSt.number N2.out H5.out (by have := HX.out; first | omega | (simp only [List.length_append, List.length_cons, List.length_nil]; omega)) hd hn hg hs); clear hd hn hg hs
              refine hK.out _ _ (DSt.cell2 N3.out) (fun hHeld => ?_)
              clear hK K
              refine norm_ (a' := ?_) ?_ ?_
              rotate_left
              · show Act.put _ (some 61) _ = _
                simp only [Act.put, List.setIfInBounds_toArray, List.set_cons_zero, List.set_cons_succ, i64_w, i32_w]
                rfl
              refine pure_ (i := 8) (N := some 62) (v := ?_) (a' := ?_) #[true, true, true, true, true, true, true, true, true, false, false, false, false] rfl rfl (by kernel_rfl) (fun _ _ _ h => h) (Or.inl ⟨by rfl, ?_⟩) ?_ ?_
              rotate_left
              · intro w'
                go_simp
                with_reducible rfl
              rotate_left
              · simp only [Act.put, List.setIfInBounds_toArray, List.set_cons_zero, List.set_cons_succ, i64_w, i32_w]
                rfl
              refine one_ (i := 9) (N := some 63) #[true, true, true, true, true, true, true, true, true, true, false, false, false] rfl rfl (by kernel_rfl) (by decide) (fun K hK => ?_)
              refine value_ (w1 := ?_) (v := ?_) (by rfl) rfl ?_ ?_
              rotate_left 2
              · go_simp
                constructor
                · rfl
                · rfl
              refine hK.out _ _ (DSt.cell2 (N3.out.below (below_alloc (Below.refl _ _) (.cells #[.int .i64 y0, .int .i64 y1, .int .i64 y2, .int .i64 y3] 81)))) (fun hHeld => ?_)
              clear hK K
              refine norm_ (a' := ?_) ?_ ?_
              rotate_left
              · show Act.put _ (some 63) _ = _
                simp only [Act.put, List.setIfInBounds_toArray, List.set_cons_zero, List.set_cons_succ, i64_w, i32_w]
                rfl
              refine last_ (i := 10) (N := some 64) #[true, true, true, true, true, true, true, true, true, true, true, false, false] rfl rfl (by kernel_rfl) (by decide) (fun K hK => ?_)
              refine Kd.flat_append_step kIns rfl (w0 := x3.alloc (.cells #[.int .i64 y0, .int .i64 y1, .int .i64 y2, .int .i64 y3] 81)) (wa.heap.size + 1) (by rfl) rfl _ _ 30 81 zIns 32 rfl Try.underlying30 (by kernel_rfl) (by decide) (by decide) _ r [⟨y0, y1, y2, y3⟩] _ _ _ rfl rfl (Kd.R_mono (N3.out.below (below_alloc (Below.refl _ _) (.cells #[.int .i64 y0, .int .i64 y1, .int .i64 y2, .int .i64 y3] 81))).row2 (fun _ _ => trivial)) (Kd.R_reads' (flat_lit (d := kIns) rfl x3 (wa.heap.size + 1) 81 [⟨y0, y1, y2, y3⟩] N3.out.sz (by simp))).2.2 (Below.refl _ _) (N3.out.below (below_alloc (Below.refl _ _) (.cells #[.int .i64 y0, .int .i64 y1, .int .i64 y2, .int .i64 y3] 81))).sz (by have := HRL.out; show (_ + 1) * 32 ≤ _; omega) ?_
              intro v2 w5 hr2 hb2 hg2 hat
              obtain ⟨E2, e2, rfl⟩ := Kd.R_slice hr2
              rw [show (r ++ [(⟨y0, y1, y2, y3⟩ : Ins)]).length = r.length + 1 by simp] at hr2 hat
              have HV := Aside0.mk hr2; have HW := Aside0.mk (DSt.app2 (N3.out.below (below_alloc (Below.refl _ _) (.cells #[.int .i64 y0, .int .i64 y1, .int .i64 y2, .int .i64 y3] 81))) hr2 hb2 hg2 hat hb2.size)
              obtain ⟨f1, f2⟩ := lay (Below.refl _ _) ((hb2.block w2.heap.size (by have := HS.out.hp; omega)).trans (N3.out.below (below_alloc (Below.refl _ _) (.cells #[.int .i64 y0, .int .i64 y1, .int .i64 y2, .int .i64 y3] 81))).code)
              clear hr2 hb2 hg2 hat
              refine hK.out _ _ ?_
              clear hK K
              refine norm_ (a' := ?_) ?_ ?_
              rotate_left
              · show Act.put _ (some 64) _ = _
                simp only [Act.put, List.setIfInBounds_toArray, List.set_cons_zero, List.set_cons_succ, i64_w, i32_w]
                rfl
              refine pure_ (i := 11) (N := some 65) (v := ?_) (a' := ?_) #[true, true, true, true, true, true, true, true, true, true, true, true, false] rfl rfl (by kernel_rfl) (fun _ _ _ h => h) (Or.inl ⟨by rfl, ?_⟩) ?_ ?_
              rotate_left
              · intro w'
                go_simp
                with_reducible rfl
              rotate_left
              · simp only [Act.put, List.setIfInBounds_toArray, List.set_cons_zero, List.set_cons_succ, i64_w, i32_w]
                rfl
              refine last_ (i := 12) (N := none) #[true, true, true, true, true, true, true, true, true, true, true, true, true] rfl rfl (by kernel_rfl) (by decide) (fun K hK => ?_)
              refine skip_ (w1 := ?_) (by rfl) rfl ?_ ?_
              rotate_left
              · go_simp
                rfl
              refine hK.out _ _ ?_
              clear hK K
              refine done_ (by kernel_rfl) ?_
              clear f1 f2
              have HG2 := Aside0.mk (HG.out.push2 b3 y0 y1 y2 y3)
              go_wp2_with fail
              go_roundg (a2.toNat + 1 - (j + 1))
              case measure => omega
              case rel => exact ⟨j + 1, b3, t3, _, _, _, _, _, rfl, by omega, by go_num, HW, HG2, ⟨fun _ => HPRE.out (by trivial)⟩⟩
            · by_cases hn : (0 : Int) < a2 - (j : Int)
              obtain rfl : bb = true := by cases bb with | true => rfl | false => exact absurd ⟨by omega, rfl⟩ hgo
              · go_wp2_with fail
                clear l1 l2
                go_roundg (4 - (2 + 1))
                case measure => omega
                case rel => exact ⟨3, true, rr, xs, _, _, _, _, _, _, _, _, n0, n1, j, by omega, by omega, rfl, HS, HG, ⟨.inr (.inr (.inr ⟨rfl, (fun h => by cases h)⟩))⟩⟩
              · have hfin : bb = false → (j : Int) = a2 := fun h => by have := HIN.out (HG.out.good h); omega
                go_wp2_with fail
                clear l1 l2
                go_roundg (4 - (2 + 1))
                case measure => omega
                case rel => exact ⟨3, bb, rr, xs, _, _, _, _, _, _, _, _, n0, n1, j, by omega, by omega, rfl, HS, HG, ⟨.inr (.inr (.inr ⟨rfl, (fun h => ⟨(HPRE.out h).1, (HPRE.out h).2, hfin h⟩)⟩))⟩⟩
        · have hat3 := HAT.out.at3
          have HAT3 := Aside0.mk hat3
          clear hat3 HAT hk
          obtain ⟨E0, e0, rfl⟩ := Kd.R_slice HS.out.row0
          obtain ⟨E1, e1, rfl⟩ := Kd.R_slice HS.out.row1
          obtain ⟨E2, e2, rfl⟩ := Kd.R_slice HS.out.row2
          obtain ⟨Q, qc, hrd1, hrd2⟩ := HS.out.rd
          obtain ⟨L, hL⟩ : ∃ L, rr.length = L := ⟨_, rfl⟩
          have hrl : (0 : Int) ≤ (L : Int) := by omega
          obtain ⟨l1, l2⟩ := lay (Below.refl _ _) hrd1
          rw [hL] at l1
          have HLN := Aside0.mk hL; clear hL
          obtain ⟨d1, d2⟩ := lay (Below.refl _ _) HS.out.code
          obtain ⟨z1, z2⟩ := lay (Below.refl _ _) HS.out.zero
          clear hrd1 hrd2
          cases bb with
          | true =>
            have HD := Aside0.mk (HS.out.st.2 rfl)
            go_wp2
            refine bodyPost_ret (v := .agg #[.int .i64 0, .int .i64 0, .slice none 0 0, .slice none 0 0, .slice none 0 0]) (by simp [results, Try.results31, go_sem, z1, z2]) rfl ⟨_, rfl, by rw [HD.out]; exact zero_own _ _, ?_⟩
            with_reducible repeat (first | exact HS.out.bel | refine bel_set ?_ (by omega) _)
          | false =>
            obtain ⟨e0, e1, e2⟩ := HAT3.out rfl
            have HXL := Aside0.mk (show (xs.length : Int) = 5 + 4 * (xs.getD 2 0 + xs.getD 3 0 + xs.getD 4 0) by
              have hl := HG.out.len
              obtain ⟨zs, hz⟩ := HG.out.hd
              have g2 : xs.getD 2 0 = a0 := by rw [hz]; rfl
              have g3 : xs.getD 3 0 = a1 := by rw [hz]; rfl
              have g4 : xs.getD 4 0 = a2 := by rw [hz]; rfl
              rw [g2, g3, g4]; omega)
            have HNC := Aside0.mk (HG.out.done e0 e1 e2)
            clear e0 e1 e2 HAT3
            by_cases hne : (0 : Int) < (L : Int)
            · have HD := Aside0.mk (decode_left (by have := HG.out.len; omega) (HS.out.st.1 rfl) HXL.out (by intro h; have := HLN.out; rw [h] at this; simp only [List.length_nil] at this; omega))
              go_wp2
              refine bodyPost_ret (v := .agg #[.int .i64 0, .int .i64 0, .slice none 0 0, .slice none 0 0, .slice none 0 0]) (by simp [results, Try.results31, go_sem, z1, z2]) rfl ⟨_, rfl, by rw [HD.out]; exact zero_own _ _, ?_⟩
              with_reducible repeat (first | exact HS.out.bel | refine bel_set ?_ (by omega) _)
            · obtain rfl : rr = [] := List.eq_nil_of_length_eq_zero (by have := HLN.out; omega)
              have HP := Aside0.mk (parse_all (HS.out.st.1 rfl))
              have HOK := Aside0.mk (show nsOk xs = true from by
                have hin := HIN.out (HG.out.good rfl)
                have hl := HG.out.len
                obtain ⟨zs, hz⟩ := HG.out.hd
                have g2 : xs.getD 2 0 = a0 := by rw [hz]; rfl
                have g3 : xs.getD 3 0 = a1 := by rw [hz]; rfl
                have g4 : xs.getD 4 0 = a2 := by rw [hz]; rfl
                exact nsOk_of (by omega) (by rw [g2]; exact (inB_iff _ _ _).2 hin.1) (by rw [g3]; exact (inB_iff _ _ _).2 hin.2.1) (by rw [g4]; exact (inB_iff _ _ _).2 hin.2.2) HXL.out)
              go_wp2_with fail
              go_at_call 21
              refine (impl_ValidCode _ _ (⟨m0, m1, r0, r1, r2⟩ : Code) HS.out.own.read).mono ?_
              rintro e w' ⟨rfl, hb⟩
              have HS1 := Aside0.mk (HS.out.below hb); clear HS hb l1 l2 d1 d2 z1 z2
              obtain ⟨d1, d2⟩ := lay (Below.refl _ _) HS1.out.code
              obtain ⟨z1, z2⟩ := lay (Below.refl _ _) HS1.out.zero
              cases hv : (⟨m0, m1, r0, r1, r2⟩ : Code).valid with
              | false =>
                have HD := Aside0.mk (decode_inv HP.out (by rw [HNC.out]; exact hv)); clear hv
                go_wp2
                refine bodyPost_ret (v := .agg #[.int .i64 0, .int .i64 0, .slice none 0 0, .slice none 0 0, .slice none 0 0]) (by simp [results, Try.results31, go_sem, z1, z2]) rfl ⟨_, rfl, by rw [HD.out]; exact zero_own _ _, ?_⟩
                with_reducible repeat (first | exact HS1.out.bel | refine bel_set ?_ (by omega) _)
              | true =>
                have HD := Aside0.mk (decode_good HP.out HOK.out (by rw [HNC.out]; exact hv)); clear hv
                go_wp2
                refine bodyPost_ret (v := .agg #[.int .i64 m0, .int .i64 m1, .slice E0 r0.length e0, .slice E1 r1.length e1, .slice E2 r2.length e2]) (by simp [results, Try.results31, go_sem, z1, z2]) rfl ⟨_, rfl, by rw [HD.out, HNC.out]; have hg1 := HS1.out.hg; have hp1 := HS1.out.hp; refine ⟨_, _, _, c1, c2, rfl, HS1.out.c12, ?_, ?_, ?_⟩ <;> refine Kd.R_lower (base := wa.heap.size + 1) ?_ (by omega) <;> (with_reducible repeat (first | exact HS1.out.row0 | exact HS1.out.row1 | exact HS1.out.row2 | refine kIns_set ?_ (by show w.heap.size < _; omega) _)), ?_⟩
                with_reducible repeat (first | exact HS1.out.bel | refine bel_set ?_ (by omega) _)
end
end Go.Proofs.Ytmjpajaeffhdeaa.L1
