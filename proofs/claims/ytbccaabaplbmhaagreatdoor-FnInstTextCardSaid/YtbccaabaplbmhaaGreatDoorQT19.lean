/- The program's printer: numbers, tags, places, a line's end. -/
import Derived.Test.YtbccaabaplbmhaaGreatDoorQT18
namespace Go.Proofs.YtbccaabaplbmhaaGreatDoor.L1
open Go.RowKit Go.Proofs.YtbccaabaplbmhaaGreatDoorW.PrintWords Go.Proofs.YtbccaabaplbmhaaGreatDoor.B
set_option linter.unusedVariables false
set_option linter.unusedSimpArgs false
attribute [local go_sem] mk_cell mk_frozen
theorem i64_and1 (n : Int) : bits .and .i64 n 1 = n % 2 := by
  have h1 : (BitVec.ofInt 64 1).toNat = 2 ^ 1 - 1 := by decide
  have key : (BitVec.ofInt 64 n &&& BitVec.ofInt 64 1).toNat = (n % ((2 ^ 64 : Nat) : Int)).toNat % 2 ^ 1 := by
    rw [BitVec.toNat_and, BitVec.toNat_ofInt, h1, Nat.and_two_pow_sub_one_eq_mod]
  show IntKind.i64.wrap ((BitVec.ofInt 64 n &&& BitVec.ofInt 64 1).toNat : Nat) = n % 2
  rw [key, IntKind.wrap_i64]
  omega
attribute [local go_sem] i64_and1
theorem ofU_append (a b : ByteArray) : ofU (a ++ b).data.toList = ofU a.data.toList ++ ofU b.data.toList := by
  rw [ByteArray.data_append, Array.toList_append]; unfold ofU; rw [List.map_append]
theorem ofU_tag {s : Int} {st : ByteArray} (h : ofU st.data.toList = tagsTo s 16) : ofU (if st.toList.isEmpty = true then (⟨#[45]⟩ : ByteArray) else st).data.toList = tagT s := by
  unfold tagT
  rw [ByteArray.toList_eq, ← h]
  unfold ofU
  rw [List.length_map]
  cases hd : st.data.toList with
  | nil => rfl
  | cons a t => simp [hd]
theorem wds_succ (xs : List Int) (j : Nat) (hj : j < xs.length) : wds ((xs.take (j + 1)).map dec) = wds ((xs.take j).map dec) ++ (dec (xs.getD j 0) ++ [32]) := by
  rw [List.take_add_one, List.getElem?_eq_getElem hj, List.getD_eq_getElem?_getD, List.getElem?_eq_getElem hj]
  simp only [Option.toList_some, List.map_append, wds_append, List.map_cons, List.map_nil, wds_one, Option.getD_some]
theorem wds_nums_len {xs : List Int} (h : ∀ q, q ∈ xs → -1000000000 ≤ q ∧ q ≤ 1000000000) (j : Nat) (hn : xs.length ≤ 10) : (wds ((xs.take j).map dec)).length ≤ 170 := by
  have h1 := wds_len (fs := (xs.take j).map dec) (by
    intro f hf
    obtain ⟨q, hq, rfl⟩ := List.mem_map.1 hf
    exact Nat.le_trans (dec_len (by have := h q (List.mem_of_mem_take hq); omega)) (by decide))
  rw [List.length_map, List.length_take] at h1
  omega
theorem Pr.lt {w0 W : World} {g : Nat} {bs : List Int} (h : Pr w0 g bs W) : g < W.heap.size := by
  obtain ⟨v, h1, _⟩ := h.row
  exact blk_lt' h1
section
variable (w : World)
set_option maxRecDepth 100000 in
set_option maxHeartbeats 2000000 in
theorem impl_nums (w0 : World) (ht : Tab w0) (g B : Nat) (bs xs : List Int) (hp : Pr w0 g bs w) (hB : w.heap[B]? = some (.cells (xs.map (Value.int .i64)).toArray 2 (0, 0))) (hne : B ≠ g) (hx : ∀ q, q ∈ xs → -1000000000 ≤ q ∧ q ≤ 1000000000) (hn : xs.length ≤ 10) (hl : bs.length ≤ 10000000) :
    Calls Tryz.prog 20 #[.pointer (some ⟨g, 0, none⟩), .slice (some ⟨B, 0, none⟩) xs.length xs.length] w fun e w' => e = .returned (.tuple #[]) ∧ Pr w0 g (bs ++ wds (xs.map dec)) w' ∧ Fra g w w' := by
  have HT := Aside0.mk ht; have HP := Aside0.mk hp; have HBB := Aside0.mk hB; have HX := Aside0.mk hx; have HL := Aside0.mk hl; clear ht hp hB hx hl
  go_enter Tryz.func20, Tryz.ntmps20
  go_wp2_with fail
  go_loopg [8] (xs.length + 1) (fun q v8 wr => ∃ j : Nat, q = xs.length + 1 - j ∧ j ≤ xs.length ∧ v8 = .int .i64 j ∧ Aside0 (Pr w0 g (bs ++ wds ((xs.take j).map dec)) wr) ∧ Aside0 (Fra g w wr))
  case atStart => exact ⟨0, by omega, by omega, rfl, ⟨by rw [List.take_zero]; show Pr w0 g (bs ++ []) _; rw [List.append_nil]; exact HP.out⟩, ⟨Fra.refl _ _⟩⟩
  case round =>
    obtain ⟨j, rfl, hj, rfl, HPj, HFj⟩ := hrel
    clear HP
    by_cases hlt : j < xs.length
    · have hc := Go.Joins.cell_of_block (Fra.at HFj.out hne HBB.out (by decide)) j
      rw [show (xs.map (Value.int .i64)).toArray[j]? = some (.int .i64 (xs.getD j 0)) by simp [hlt]] at hc
      have HU := Aside0.mk (wds_succ xs j hlt)
      have HQ := Aside0.mk (HX.out (xs.getD j 0) (by rw [List.getD_eq_getElem?_getD, List.getElem?_eq_getElem hlt]; exact List.getElem_mem hlt))
      have HWL := Aside0.mk (wds_nums_len HX.out j hn)
      generalize xs.getD j 0 = y at hc HU HQ
      generalize wds ((xs.take j).map dec) = us at HPj HU HWL
      go_wp2_with fail
      clear hc
      go_at_call 42
      refine (impl_format w0 _ HT.out HPj.out.low y HQ.out).mono ?_
      rintro e w1 ⟨st, rfl, hst, hb⟩
      have HP1 := Aside0.mk (HPj.out.below hb); have HF1 := Aside0.mk (HFj.out.trans (Fra.below hb)); have HST := Aside0.mk hst; clear hst hb
      have HSL := Aside0.mk (show st.size ≤ 11 by rw [← ofU_len, HST.out]; exact dec_len (by have := HQ.out; omega))
      go_wp2_with fail
      go_at_call 19
      refine (impl_word _ w0 g _ st HP1.out (by have h1 := HL.out; have h2 := HWL.out; have h3 := HSL.out; rw [List.length_append]; omega)).mono ?_
      rintro e w2 ⟨rfl, hp, hf⟩
      have HP2 := Aside0.mk hp; have HF2 := Aside0.mk (HF1.out.trans hf); clear hp hf
      go_wp2
      go_roundg (xs.length + 1 - (j + 1))
      case measure => omega
      case rel => exact ⟨j + 1, rfl, by omega, by go_num, ⟨by rw [HU.out, ← List.append_assoc, ← HST.out]; exact HP2.out⟩, HF2⟩
    · have hje : j = xs.length := by omega
      subst hje
      go_wp2
      refine bodyPost_end (v := .tuple #[]) (by simp [results, Tryz.results20, go_sem]) rfl ⟨rfl, ?_, HFj.out⟩
      have := HPj.out
      rwa [List.take_length] at this
set_option maxRecDepth 100000 in
set_option maxHeartbeats 2000000 in
theorem impl_place (w0 : World) (ht : Tab w0) (g : Nat) (bs : List Int) (y : Place) (hp : Pr w0 g bs w) (hy : y.fit) (hl : bs.length ≤ 10000000) :
    Calls Tryz.prog 22 #[.pointer (some ⟨g, 0, none⟩), .agg #[.int .i64 y.x, .int .i64 y.y, .int .i64 y.o, .int .i64 y.c, .int .i64 y.h]] w fun e w' => e = .returned (.tuple #[]) ∧ Pr w0 g (bs ++ wds y.flds) w' ∧ Fra g w w' := by
  have HT := Aside0.mk ht; have HP := Aside0.mk hp; have HY := Aside0.mk hy; have HL := Aside0.mk hl; clear ht hp hy hl
  have hb0 := below_alloc (below_alloc (Below.refl w.heap.size w) (.cells #[.int .i64 y.x, .int .i64 y.y, .int .i64 y.o, .int .i64 y.c, .int .i64 y.h] 43)) (.cells #[.int .i64 y.x, .int .i64 y.y, .int .i64 y.o, .int .i64 y.c, .int .i64 y.h] 2)
  have hnew := al_new (w.alloc (.cells #[.int .i64 y.x, .int .i64 y.y, .int .i64 y.o, .int .i64 y.c, .int .i64 y.h] 43)) (.cells #[.int .i64 y.x, .int .i64 y.y, .int .i64 y.o, .int .i64 y.c, .int .i64 y.h] 2)
  rw [al_size] at hnew
  have HB0 := Aside0.mk hb0; have HN := Aside0.mk hnew; clear hb0 hnew
  go_enter Tryz.func22, Tryz.ntmps22
  go_wp2_with fail
  go_at_call 20
  refine (impl_nums _ w0 HT.out g (w.heap.size + 1) bs [y.x, y.y, y.o, y.c, y.h] (HP.out.below HB0.out) HN.out (by have := HP.out.lt; omega) HY.out (by show (5 : Nat) ≤ 10; decide) HL.out).mono ?_
  rintro e w1 ⟨rfl, hp, hf⟩
  have HP1 := Aside0.mk hp; have HF1 := Aside0.mk ((Fra.below HB0.out).trans hf); clear hp hf
  go_wp2
  refine bodyPost_end (v := .tuple #[]) (by simp [results, Tryz.results22, go_sem]) rfl ⟨rfl, HP1.out, HF1.out⟩
set_option maxHeartbeats 1000000 in
/-- cmp.Or over a pair of strings. -/
theorem or2s (a b : ByteArray) (g : Nat) (h0 : w.cell? ⟨g, 0, none⟩ = some (.string a)) (h1 : w.cell? ⟨g, 1, none⟩ = some (.string b)) (hb : b.toList.isEmpty = false) :
    Calls Tryz.prog 43 #[.slice (some ⟨g, 0, none⟩) 2 2] w fun e w' => e = .returned (.string (if a.toList.isEmpty then b else a)) ∧ w = w' := by
  have hbn : (!b.toList.isEmpty) = true := by rw [hb]; rfl
  cases hx : a.toList.isEmpty with
  | true =>
    have han : (!a.toList.isEmpty) = false := by rw [hx]; rfl
    go_enter Tryz.func43, Tryz.ntmps43
    go_wp2
    refine wp_loop_rounds 2 ?_
    rw [rounds_succ]; go_wp2
    rw [rounds_succ]; go_wp2
    go_ret
    exact ⟨rfl, rfl⟩
  | false =>
    have han : (!a.toList.isEmpty) = true := by rw [hx]; rfl
    go_enter Tryz.func43, Tryz.ntmps43
    go_wp2
    refine wp_loop_rounds 1 ?_
    rw [rounds_succ]; go_wp2
    go_ret
    exact ⟨rfl, rfl⟩
set_option maxRecDepth 100000 in
set_option maxHeartbeats 2000000 in
theorem impl_tags (w0 : World) (g : Nat) (bs : List Int) (s : Int) (hs : 0 ≤ s ∧ s ≤ 65535) (hp : Pr w0 g bs w) (hl : bs.length ≤ 10000000) :
    Calls Tryz.prog 21 #[.pointer (some ⟨g, 0, none⟩), .int .i64 s] w fun e w' => e = .returned (.tuple #[]) ∧ Pr w0 g (bs ++ (tagT s ++ [32])) w' ∧ Fra g w w' := by
  have HP := Aside0.mk hp; have HL := Aside0.mk hl; have HS := Aside0.mk hs; clear hp hl
  go_enter Tryz.func21, Tryz.ntmps21
  go_wp2_with fail
  go_loopg [4, 6] 17 (fun q v4 v6 wr => ∃ (j : Nat) (st : ByteArray), q = 17 - j ∧ j ≤ 16 ∧ v4 = .string st ∧ v6 = .int .i64 j ∧ Aside0 (ofU st.data.toList = tagsTo s j) ∧ wr = w)
  case atStart => exact ⟨0, ⟨#[]⟩, by omega, by omega, rfl, rfl, ⟨rfl⟩, rfl⟩
  case round =>
    obtain ⟨j, st, rfl, hj, rfl, rfl, HO, rfl⟩ := hrel
    have hsz : st.size ≤ 16 := by rw [← ofU_len, HO.out]; exact Nat.le_trans (tagsTo_len s j) hj
    rcases (show j < 16 ∨ j = 16 by omega) with hlt | rfl
    · rcases (show j = 0 ∨ j = 1 ∨ j = 2 ∨ j = 3 ∨ j = 4 ∨ j = 5 ∨ j = 6 ∨ j = 7 ∨ j = 8 ∨ j = 9 ∨ j = 10 ∨ j = 11 ∨ j = 12 ∨ j = 13 ∨ j = 14 ∨ j = 15 by omega) with rfl | rfl | rfl | rfl | rfl | rfl | rfl | rfl | rfl | rfl | rfl | rfl | rfl | rfl | rfl | rfl
      · obtain ⟨e1, he1⟩ : ∃ e1, Utf8.encode 97 = e1 := ⟨_, rfl⟩
        have hes : e1.size = 1 := by rw [← he1]; decide +kernel
        have HE := Aside0.mk (show ofU e1.data.toList = [97] by rw [← he1]; decide +kernel)
        have HU := Aside0.mk (tagsTo_succ s 0)
        by_cases hb : s % 2 = 1
        · have HU1 := Aside0.mk (show tagsTo s (0 + 1) = tagsTo s 0 ++ [97] by rw [HU.out]; unfold tagAt; rw [if_pos (show s / 2 ^ 0 % 2 = 1 by simpa using hb)]; rfl)
          have q1 : (s % 2 == 1) = true := by rw [hb]; rfl
          have q2 : decide (s % 2 = 1) = true := decide_eq_true hb
          clear hb HU hs
          go_wp2
          go_roundg (17 - (0 + 1))
          case measure => omega
          case rel => exact ⟨1, st ++ e1, by omega, by omega, rfl, by first | rfl | go_num, ⟨by rw [ofU_append, HO.out, HE.out]; exact HU1.out.symm⟩, rfl⟩
        · have HU1 := Aside0.mk (show tagsTo s (0 + 1) = tagsTo s 0 by rw [HU.out]; unfold tagAt; rw [if_neg (show ¬ s / 2 ^ 0 % 2 = 1 by simpa using hb), List.append_nil])
          have q1 : (s % 2 == 1) = false := beq_false_of_ne hb
          have q2 : decide (s % 2 = 1) = false := decide_eq_false hb
          clear hb HU hs
          go_wp2
          go_roundg (17 - (0 + 1))
          case measure => omega
          case rel => exact ⟨1, st, by omega, by omega, rfl, by first | rfl | go_num, ⟨by rw [HO.out]; exact HU1.out.symm⟩, rfl⟩
      · obtain ⟨e1, he1⟩ : ∃ e1, Utf8.encode 98 = e1 := ⟨_, rfl⟩
        have hes : e1.size = 1 := by rw [← he1]; decide +kernel
        have HE := Aside0.mk (show ofU e1.data.toList = [98] by rw [← he1]; decide +kernel)
        have HU := Aside0.mk (tagsTo_succ s 1)
        by_cases hb : s / 2 % 2 = 1
        · have HU1 := Aside0.mk (show tagsTo s (1 + 1) = tagsTo s 1 ++ [98] by rw [HU.out]; unfold tagAt; rw [if_pos (show s / 2 ^ 1 % 2 = 1 by simpa using hb)]; rfl)
          have q1 : (s / 2 % 2 == 1) = true := by rw [hb]; rfl
          have q2 : decide (s / 2 % 2 = 1) = true := decide_eq_true hb
          clear hb HU hs
          go_wp2
          go_roundg (17 - (1 + 1))
          case measure => omega
          case rel => exact ⟨2, st ++ e1, by omega, by omega, rfl, by first | rfl | go_num, ⟨by rw [ofU_append, HO.out, HE.out]; exact HU1.out.symm⟩, rfl⟩
        · have HU1 := Aside0.mk (show tagsTo s (1 + 1) = tagsTo s 1 by rw [HU.out]; unfold tagAt; rw [if_neg (show ¬ s / 2 ^ 1 % 2 = 1 by simpa using hb), List.append_nil])
          have q1 : (s / 2 % 2 == 1) = false := beq_false_of_ne hb
          have q2 : decide (s / 2 % 2 = 1) = false := decide_eq_false hb
          clear hb HU hs
          go_wp2
          go_roundg (17 - (1 + 1))
          case measure => omega
          case rel => exact ⟨2, st, by omega, by omega, rfl, by first | rfl | go_num, ⟨by rw [HO.out]; exact HU1.out.symm⟩, rfl⟩
      · obtain ⟨e1, he1⟩ : ∃ e1, Utf8.encode 99 = e1 := ⟨_, rfl⟩
        have hes : e1.size = 1 := by rw [← he1]; decide +kernel
        have HE := Aside0.mk (show ofU e1.data.toList = [99] by rw [← he1]; decide +kernel)
        have HU := Aside0.mk (tagsTo_succ s 2)
        by_cases hb : s / 4 % 2 = 1
        · have HU1 := Aside0.mk (show tagsTo s (2 + 1) = tagsTo s 2 ++ [99] by rw [HU.out]; unfold tagAt; rw [if_pos (show s / 2 ^ 2 % 2 = 1 by simpa using hb)]; rfl)
          have q1 : (s / 4 % 2 == 1) = true := by rw [hb]; rfl
          have q2 : decide (s / 4 % 2 = 1) = true := decide_eq_true hb
          clear hb HU hs
          go_wp2
          go_roundg (17 - (2 + 1))
          case measure => omega
          case rel => exact ⟨3, st ++ e1, by omega, by omega, rfl, by first | rfl | go_num, ⟨by rw [ofU_append, HO.out, HE.out]; exact HU1.out.symm⟩, rfl⟩
        · have HU1 := Aside0.mk (show tagsTo s (2 + 1) = tagsTo s 2 by rw [HU.out]; unfold tagAt; rw [if_neg (show ¬ s / 2 ^ 2 % 2 = 1 by simpa using hb), List.append_nil])
          have q1 : (s / 4 % 2 == 1) = false := beq_false_of_ne hb
          have q2 : decide (s / 4 % 2 = 1) = false := decide_eq_false hb
          clear hb HU hs
          go_wp2
          go_roundg (17 - (2 + 1))
          case measure => omega
          case rel => exact ⟨3, st, by omega, by omega, rfl, by first | rfl | go_num, ⟨by rw [HO.out]; exact HU1.out.symm⟩, rfl⟩
      · obtain ⟨e1, he1⟩ : ∃ e1, Utf8.encode 100 = e1 := ⟨_, rfl⟩
        have hes : e1.size = 1 := by rw [← he1]; decide +kernel
        have HE := Aside0.mk (show ofU e1.data.toList = [100] by rw [← he1]; decide +kernel)
        have HU := Aside0.mk (tagsTo_succ s 3)
        by_cases hb : s / 8 % 2 = 1
        · have HU1 := Aside0.mk (show tagsTo s (3 + 1) = tagsTo s 3 ++ [100] by rw [HU.out]; unfold tagAt; rw [if_pos (show s / 2 ^ 3 % 2 = 1 by simpa using hb)]; rfl)
          have q1 : (s / 8 % 2 == 1) = true := by rw [hb]; rfl
          have q2 : decide (s / 8 % 2 = 1) = true := decide_eq_true hb
          clear hb HU hs
          go_wp2
          go_roundg (17 - (3 + 1))
          case measure => omega
          case rel => exact ⟨4, st ++ e1, by omega, by omega, rfl, by first | rfl | go_num, ⟨by rw [ofU_append, HO.out, HE.out]; exact HU1.out.symm⟩, rfl⟩
        · have HU1 := Aside0.mk (show tagsTo s (3 + 1) = tagsTo s 3 by rw [HU.out]; unfold tagAt; rw [if_neg (show ¬ s / 2 ^ 3 % 2 = 1 by simpa using hb), List.append_nil])
          have q1 : (s / 8 % 2 == 1) = false := beq_false_of_ne hb
          have q2 : decide (s / 8 % 2 = 1) = false := decide_eq_false hb
          clear hb HU hs
          go_wp2
          go_roundg (17 - (3 + 1))
          case measure => omega
          case rel => exact ⟨4, st, by omega, by omega, rfl, by first | rfl | go_num, ⟨by rw [HO.out]; exact HU1.out.symm⟩, rfl⟩
      · obtain ⟨e1, he1⟩ : ∃ e1, Utf8.encode 101 = e1 := ⟨_, rfl⟩
        have hes : e1.size = 1 := by rw [← he1]; decide +kernel
        have HE := Aside0.mk (show ofU e1.data.toList = [101] by rw [← he1]; decide +kernel)
        have HU := Aside0.mk (tagsTo_succ s 4)
        by_cases hb : s / 16 % 2 = 1
        · have HU1 := Aside0.mk (show tagsTo s (4 + 1) = tagsTo s 4 ++ [101] by rw [HU.out]; unfold tagAt; rw [if_pos (show s / 2 ^ 4 % 2 = 1 by simpa using hb)]; rfl)
          have q1 : (s / 16 % 2 == 1) = true := by rw [hb]; rfl
          have q2 : decide (s / 16 % 2 = 1) = true := decide_eq_true hb
          clear hb HU hs
          go_wp2
          go_roundg (17 - (4 + 1))
          case measure => omega
          case rel => exact ⟨5, st ++ e1, by omega, by omega, rfl, by first | rfl | go_num, ⟨by rw [ofU_append, HO.out, HE.out]; exact HU1.out.symm⟩, rfl⟩
        · have HU1 := Aside0.mk (show tagsTo s (4 + 1) = tagsTo s 4 by rw [HU.out]; unfold tagAt; rw [if_neg (show ¬ s / 2 ^ 4 % 2 = 1 by simpa using hb), List.append_nil])
          have q1 : (s / 16 % 2 == 1) = false := beq_false_of_ne hb
          have q2 : decide (s / 16 % 2 = 1) = false := decide_eq_false hb
          clear hb HU hs
          go_wp2
          go_roundg (17 - (4 + 1))
          case measure => omega
          case rel => exact ⟨5, st, by omega, by omega, rfl, by first | rfl | go_num, ⟨by rw [HO.out]; exact HU1.out.symm⟩, rfl⟩
      · obtain ⟨e1, he1⟩ : ∃ e1, Utf8.encode 102 = e1 := ⟨_, rfl⟩
        have hes : e1.size = 1 := by rw [← he1]; decide +kernel
        have HE := Aside0.mk (show ofU e1.data.toList = [102] by rw [← he1]; decide +kernel)
        have HU := Aside0.mk (tagsTo_succ s 5)
        by_cases hb : s / 32 % 2 = 1
        · have HU1 := Aside0.mk (show tagsTo s (5 + 1) = tagsTo s 5 ++ [102] by rw [HU.out]; unfold tagAt; rw [if_pos (show s / 2 ^ 5 % 2 = 1 by simpa using hb)]; rfl)
          have q1 : (s / 32 % 2 == 1) = true := by rw [hb]; rfl
          have q2 : decide (s / 32 % 2 = 1) = true := decide_eq_true hb
          clear hb HU hs
          go_wp2
          go_roundg (17 - (5 + 1))
          case measure => omega
          case rel => exact ⟨6, st ++ e1, by omega, by omega, rfl, by first | rfl | go_num, ⟨by rw [ofU_append, HO.out, HE.out]; exact HU1.out.symm⟩, rfl⟩
        · have HU1 := Aside0.mk (show tagsTo s (5 + 1) = tagsTo s 5 by rw [HU.out]; unfold tagAt; rw [if_neg (show ¬ s / 2 ^ 5 % 2 = 1 by simpa using hb), List.append_nil])
          have q1 : (s / 32 % 2 == 1) = false := beq_false_of_ne hb
          have q2 : decide (s / 32 % 2 = 1) = false := decide_eq_false hb
          clear hb HU hs
          go_wp2
          go_roundg (17 - (5 + 1))
          case measure => omega
          case rel => exact ⟨6, st, by omega, by omega, rfl, by first | rfl | go_num, ⟨by rw [HO.out]; exact HU1.out.symm⟩, rfl⟩
      · obtain ⟨e1, he1⟩ : ∃ e1, Utf8.encode 103 = e1 := ⟨_, rfl⟩
        have hes : e1.size = 1 := by rw [← he1]; decide +kernel
        have HE := Aside0.mk (show ofU e1.data.toList = [103] by rw [← he1]; decide +kernel)
        have HU := Aside0.mk (tagsTo_succ s 6)
        by_cases hb : s / 64 % 2 = 1
        · have HU1 := Aside0.mk (show tagsTo s (6 + 1) = tagsTo s 6 ++ [103] by rw [HU.out]; unfold tagAt; rw [if_pos (show s / 2 ^ 6 % 2 = 1 by simpa using hb)]; rfl)
          have q1 : (s / 64 % 2 == 1) = true := by rw [hb]; rfl
          have q2 : decide (s / 64 % 2 = 1) = true := decide_eq_true hb
          clear hb HU hs
          go_wp2
          go_roundg (17 - (6 + 1))
          case measure => omega
          case rel => exact ⟨7, st ++ e1, by omega, by omega, rfl, by first | rfl | go_num, ⟨by rw [ofU_append, HO.out, HE.out]; exact HU1.out.symm⟩, rfl⟩
        · have HU1 := Aside0.mk (show tagsTo s (6 + 1) = tagsTo s 6 by rw [HU.out]; unfold tagAt; rw [if_neg (show ¬ s / 2 ^ 6 % 2 = 1 by simpa using hb), List.append_nil])
          have q1 : (s / 64 % 2 == 1) = false := beq_false_of_ne hb
          have q2 : decide (s / 64 % 2 = 1) = false := decide_eq_false hb
          clear hb HU hs
          go_wp2
          go_roundg (17 - (6 + 1))
          case measure => omega
          case rel => exact ⟨7, st, by omega, by omega, rfl, by first | rfl | go_num, ⟨by rw [HO.out]; exact HU1.out.symm⟩, rfl⟩
      · obtain ⟨e1, he1⟩ : ∃ e1, Utf8.encode 104 = e1 := ⟨_, rfl⟩
        have hes : e1.size = 1 := by rw [← he1]; decide +kernel
        have HE := Aside0.mk (show ofU e1.data.toList = [104] by rw [← he1]; decide +kernel)
        have HU := Aside0.mk (tagsTo_succ s 7)
        by_cases hb : s / 128 % 2 = 1
        · have HU1 := Aside0.mk (show tagsTo s (7 + 1) = tagsTo s 7 ++ [104] by rw [HU.out]; unfold tagAt; rw [if_pos (show s / 2 ^ 7 % 2 = 1 by simpa using hb)]; rfl)
          have q1 : (s / 128 % 2 == 1) = true := by rw [hb]; rfl
          have q2 : decide (s / 128 % 2 = 1) = true := decide_eq_true hb
          clear hb HU hs
          go_wp2
          go_roundg (17 - (7 + 1))
          case measure => omega
          case rel => exact ⟨8, st ++ e1, by omega, by omega, rfl, by first | rfl | go_num, ⟨by rw [ofU_append, HO.out, HE.out]; exact HU1.out.symm⟩, rfl⟩
        · have HU1 := Aside0.mk (show tagsTo s (7 + 1) = tagsTo s 7 by rw [HU.out]; unfold tagAt; rw [if_neg (show ¬ s / 2 ^ 7 % 2 = 1 by simpa using hb), List.append_nil])
          have q1 : (s / 128 % 2 == 1) = false := beq_false_of_ne hb
          have q2 : decide (s / 128 % 2 = 1) = false := decide_eq_false hb
          clear hb HU hs
          go_wp2
          go_roundg (17 - (7 + 1))
          case measure => omega
          case rel => exact ⟨8, st, by omega, by omega, rfl, by first | rfl | go_num, ⟨by rw [HO.out]; exact HU1.out.symm⟩, rfl⟩
      · obtain ⟨e1, he1⟩ : ∃ e1, Utf8.encode 105 = e1 := ⟨_, rfl⟩
        have hes : e1.size = 1 := by rw [← he1]; decide +kernel
        have HE := Aside0.mk (show ofU e1.data.toList = [105] by rw [← he1]; decide +kernel)
        have HU := Aside0.mk (tagsTo_succ s 8)
        by_cases hb : s / 256 % 2 = 1
        · have HU1 := Aside0.mk (show tagsTo s (8 + 1) = tagsTo s 8 ++ [105] by rw [HU.out]; unfold tagAt; rw [if_pos (show s / 2 ^ 8 % 2 = 1 by simpa using hb)]; rfl)
          have q1 : (s / 256 % 2 == 1) = true := by rw [hb]; rfl
          have q2 : decide (s / 256 % 2 = 1) = true := decide_eq_true hb
          clear hb HU hs
          go_wp2
          go_roundg (17 - (8 + 1))
          case measure => omega
          case rel => exact ⟨9, st ++ e1, by omega, by omega, rfl, by first | rfl | go_num, ⟨by rw [ofU_append, HO.out, HE.out]; exact HU1.out.symm⟩, rfl⟩
        · have HU1 := Aside0.mk (show tagsTo s (8 + 1) = tagsTo s 8 by rw [HU.out]; unfold tagAt; rw [if_neg (show ¬ s / 2 ^ 8 % 2 = 1 by simpa using hb), List.append_nil])
          have q1 : (s / 256 % 2 == 1) = false := beq_false_of_ne hb
          have q2 : decide (s / 256 % 2 = 1) = false := decide_eq_false hb
          clear hb HU hs
          go_wp2
          go_roundg (17 - (8 + 1))
          case measure => omega
          case rel => exact ⟨9, st, by omega, by omega, rfl, by first | rfl | go_num, ⟨by rw [HO.out]; exact HU1.out.symm⟩, rfl⟩
      · obtain ⟨e1, he1⟩ : ∃ e1, Utf8.encode 106 = e1 := ⟨_, rfl⟩
        have hes : e1.size = 1 := by rw [← he1]; decide +kernel
        have HE := Aside0.mk (show ofU e1.data.toList = [106] by rw [← he1]; decide +kernel)
        have HU := Aside0.mk (tagsTo_succ s 9)
        by_cases hb : s / 512 % 2 = 1
        · have HU1 := Aside0.mk (show tagsTo s (9 + 1) = tagsTo s 9 ++ [106] by rw [HU.out]; unfold tagAt; rw [if_pos (show s / 2 ^ 9 % 2 = 1 by simpa using hb)]; rfl)
          have q1 : (s / 512 % 2 == 1) = true := by rw [hb]; rfl
          have q2 : decide (s / 512 % 2 = 1) = true := decide_eq_true hb
          clear hb HU hs
          go_wp2
          go_roundg (17 - (9 + 1))
          case measure => omega
          case rel => exact ⟨10, st ++ e1, by omega, by omega, rfl, by first | rfl | go_num, ⟨by rw [ofU_append, HO.out, HE.out]; exact HU1.out.symm⟩, rfl⟩
        · have HU1 := Aside0.mk (show tagsTo s (9 + 1) = tagsTo s 9 by rw [HU.out]; unfold tagAt; rw [if_neg (show ¬ s / 2 ^ 9 % 2 = 1 by simpa using hb), List.append_nil])
          have q1 : (s / 512 % 2 == 1) = false := beq_false_of_ne hb
          have q2 : decide (s / 512 % 2 = 1) = false := decide_eq_false hb
          clear hb HU hs
          go_wp2
          go_roundg (17 - (9 + 1))
          case measure => omega
          case rel => exact ⟨10, st, by omega, by omega, rfl, by first | rfl | go_num, ⟨by rw [HO.out]; exact HU1.out.symm⟩, rfl⟩
      · obtain ⟨e1, he1⟩ : ∃ e1, Utf8.encode 107 = e1 := ⟨_, rfl⟩
        have hes : e1.size = 1 := by rw [← he1]; decide +kernel
        have HE := Aside0.mk (show ofU e1.data.toList = [107] by rw [← he1]; decide +kernel)
        have HU := Aside0.mk (tagsTo_succ s 10)
        by_cases hb : s / 1024 % 2 = 1
        · have HU1 := Aside0.mk (show tagsTo s (10 + 1) = tagsTo s 10 ++ [107] by rw [HU.out]; unfold tagAt; rw [if_pos (show s / 2 ^ 10 % 2 = 1 by simpa using hb)]; rfl)
          have q1 : (s / 1024 % 2 == 1) = true := by rw [hb]; rfl
          have q2 : decide (s / 1024 % 2 = 1) = true := decide_eq_true hb
          clear hb HU hs
          go_wp2
          go_roundg (17 - (10 + 1))
          case measure => omega
          case rel => exact ⟨11, st ++ e1, by omega, by omega, rfl, by first | rfl | go_num, ⟨by rw [ofU_append, HO.out, HE.out]; exact HU1.out.symm⟩, rfl⟩
        · have HU1 := Aside0.mk (show tagsTo s (10 + 1) = tagsTo s 10 by rw [HU.out]; unfold tagAt; rw [if_neg (show ¬ s / 2 ^ 10 % 2 = 1 by simpa using hb), List.append_nil])
          have q1 : (s / 1024 % 2 == 1) = false := beq_false_of_ne hb
          have q2 : decide (s / 1024 % 2 = 1) = false := decide_eq_false hb
          clear hb HU hs
          go_wp2
          go_roundg (17 - (10 + 1))
          case measure => omega
          case rel => exact ⟨11, st, by omega, by omega, rfl, by first | rfl | go_num, ⟨by rw [HO.out]; exact HU1.out.symm⟩, rfl⟩
      · obtain ⟨e1, he1⟩ : ∃ e1, Utf8.encode 108 = e1 := ⟨_, rfl⟩
        have hes : e1.size = 1 := by rw [← he1]; decide +kernel
        have HE := Aside0.mk (show ofU e1.data.toList = [108] by rw [← he1]; decide +kernel)
        have HU := Aside0.mk (tagsTo_succ s 11)
        by_cases hb : s / 2048 % 2 = 1
        · have HU1 := Aside0.mk (show tagsTo s (11 + 1) = tagsTo s 11 ++ [108] by rw [HU.out]; unfold tagAt; rw [if_pos (show s / 2 ^ 11 % 2 = 1 by simpa using hb)]; rfl)
          have q1 : (s / 2048 % 2 == 1) = true := by rw [hb]; rfl
          have q2 : decide (s / 2048 % 2 = 1) = true := decide_eq_true hb
          clear hb HU hs
          go_wp2
          go_roundg (17 - (11 + 1))
          case measure => omega
          case rel => exact ⟨12, st ++ e1, by omega, by omega, rfl, by first | rfl | go_num, ⟨by rw [ofU_append, HO.out, HE.out]; exact HU1.out.symm⟩, rfl⟩
        · have HU1 := Aside0.mk (show tagsTo s (11 + 1) = tagsTo s 11 by rw [HU.out]; unfold tagAt; rw [if_neg (show ¬ s / 2 ^ 11 % 2 = 1 by simpa using hb), List.append_nil])
          have q1 : (s / 2048 % 2 == 1) = false := beq_false_of_ne hb
          have q2 : decide (s / 2048 % 2 = 1) = false := decide_eq_false hb
          clear hb HU hs
          go_wp2
          go_roundg (17 - (11 + 1))
          case measure => omega
          case rel => exact ⟨12, st, by omega, by omega, rfl, by first | rfl | go_num, ⟨by rw [HO.out]; exact HU1.out.symm⟩, rfl⟩
      · obtain ⟨e1, he1⟩ : ∃ e1, Utf8.encode 109 = e1 := ⟨_, rfl⟩
        have hes : e1.size = 1 := by rw [← he1]; decide +kernel
        have HE := Aside0.mk (show ofU e1.data.toList = [109] by rw [← he1]; decide +kernel)
        have HU := Aside0.mk (tagsTo_succ s 12)
        by_cases hb : s / 4096 % 2 = 1
        · have HU1 := Aside0.mk (show tagsTo s (12 + 1) = tagsTo s 12 ++ [109] by rw [HU.out]; unfold tagAt; rw [if_pos (show s / 2 ^ 12 % 2 = 1 by simpa using hb)]; rfl)
          have q1 : (s / 4096 % 2 == 1) = true := by rw [hb]; rfl
          have q2 : decide (s / 4096 % 2 = 1) = true := decide_eq_true hb
          clear hb HU hs
          go_wp2
          go_roundg (17 - (12 + 1))
          case measure => omega
          case rel => exact ⟨13, st ++ e1, by omega, by omega, rfl, by first | rfl | go_num, ⟨by rw [ofU_append, HO.out, HE.out]; exact HU1.out.symm⟩, rfl⟩
        · have HU1 := Aside0.mk (show tagsTo s (12 + 1) = tagsTo s 12 by rw [HU.out]; unfold tagAt; rw [if_neg (show ¬ s / 2 ^ 12 % 2 = 1 by simpa using hb), List.append_nil])
          have q1 : (s / 4096 % 2 == 1) = false := beq_false_of_ne hb
          have q2 : decide (s / 4096 % 2 = 1) = false := decide_eq_false hb
          clear hb HU hs
          go_wp2
          go_roundg (17 - (12 + 1))
          case measure => omega
          case rel => exact ⟨13, st, by omega, by omega, rfl, by first | rfl | go_num, ⟨by rw [HO.out]; exact HU1.out.symm⟩, rfl⟩
      · obtain ⟨e1, he1⟩ : ∃ e1, Utf8.encode 110 = e1 := ⟨_, rfl⟩
        have hes : e1.size = 1 := by rw [← he1]; decide +kernel
        have HE := Aside0.mk (show ofU e1.data.toList = [110] by rw [← he1]; decide +kernel)
        have HU := Aside0.mk (tagsTo_succ s 13)
        by_cases hb : s / 8192 % 2 = 1
        · have HU1 := Aside0.mk (show tagsTo s (13 + 1) = tagsTo s 13 ++ [110] by rw [HU.out]; unfold tagAt; rw [if_pos (show s / 2 ^ 13 % 2 = 1 by simpa using hb)]; rfl)
          have q1 : (s / 8192 % 2 == 1) = true := by rw [hb]; rfl
          have q2 : decide (s / 8192 % 2 = 1) = true := decide_eq_true hb
          clear hb HU hs
          go_wp2
          go_roundg (17 - (13 + 1))
          case measure => omega
          case rel => exact ⟨14, st ++ e1, by omega, by omega, rfl, by first | rfl | go_num, ⟨by rw [ofU_append, HO.out, HE.out]; exact HU1.out.symm⟩, rfl⟩
        · have HU1 := Aside0.mk (show tagsTo s (13 + 1) = tagsTo s 13 by rw [HU.out]; unfold tagAt; rw [if_neg (show ¬ s / 2 ^ 13 % 2 = 1 by simpa using hb), List.append_nil])
          have q1 : (s / 8192 % 2 == 1) = false := beq_false_of_ne hb
          have q2 : decide (s / 8192 % 2 = 1) = false := decide_eq_false hb
          clear hb HU hs
          go_wp2
          go_roundg (17 - (13 + 1))
          case measure => omega
          case rel => exact ⟨14, st, by omega, by omega, rfl, by first | rfl | go_num, ⟨by rw [HO.out]; exact HU1.out.symm⟩, rfl⟩
      · obtain ⟨e1, he1⟩ : ∃ e1, Utf8.encode 111 = e1 := ⟨_, rfl⟩
        have hes : e1.size = 1 := by rw [← he1]; decide +kernel
        have HE := Aside0.mk (show ofU e1.data.toList = [111] by rw [← he1]; decide +kernel)
        have HU := Aside0.mk (tagsTo_succ s 14)
        by_cases hb : s / 16384 % 2 = 1
        · have HU1 := Aside0.mk (show tagsTo s (14 + 1) = tagsTo s 14 ++ [111] by rw [HU.out]; unfold tagAt; rw [if_pos (show s / 2 ^ 14 % 2 = 1 by simpa using hb)]; rfl)
          have q1 : (s / 16384 % 2 == 1) = true := by rw [hb]; rfl
          have q2 : decide (s / 16384 % 2 = 1) = true := decide_eq_true hb
          clear hb HU hs
          go_wp2
          go_roundg (17 - (14 + 1))
          case measure => omega
          case rel => exact ⟨15, st ++ e1, by omega, by omega, rfl, by first | rfl | go_num, ⟨by rw [ofU_append, HO.out, HE.out]; exact HU1.out.symm⟩, rfl⟩
        · have HU1 := Aside0.mk (show tagsTo s (14 + 1) = tagsTo s 14 by rw [HU.out]; unfold tagAt; rw [if_neg (show ¬ s / 2 ^ 14 % 2 = 1 by simpa using hb), List.append_nil])
          have q1 : (s / 16384 % 2 == 1) = false := beq_false_of_ne hb
          have q2 : decide (s / 16384 % 2 = 1) = false := decide_eq_false hb
          clear hb HU hs
          go_wp2
          go_roundg (17 - (14 + 1))
          case measure => omega
          case rel => exact ⟨15, st, by omega, by omega, rfl, by first | rfl | go_num, ⟨by rw [HO.out]; exact HU1.out.symm⟩, rfl⟩
      · obtain ⟨e1, he1⟩ : ∃ e1, Utf8.encode 112 = e1 := ⟨_, rfl⟩
        have hes : e1.size = 1 := by rw [← he1]; decide +kernel
        have HE := Aside0.mk (show ofU e1.data.toList = [112] by rw [← he1]; decide +kernel)
        have HU := Aside0.mk (tagsTo_succ s 15)
        by_cases hb : s / 32768 % 2 = 1
        · have HU1 := Aside0.mk (show tagsTo s (15 + 1) = tagsTo s 15 ++ [112] by rw [HU.out]; unfold tagAt; rw [if_pos (show s / 2 ^ 15 % 2 = 1 by simpa using hb)]; rfl)
          have q1 : (s / 32768 % 2 == 1) = true := by rw [hb]; rfl
          have q2 : decide (s / 32768 % 2 = 1) = true := decide_eq_true hb
          clear hb HU hs
          go_wp2
          go_roundg (17 - (15 + 1))
          case measure => omega
          case rel => exact ⟨16, st ++ e1, by omega, by omega, rfl, by first | rfl | go_num, ⟨by rw [ofU_append, HO.out, HE.out]; exact HU1.out.symm⟩, rfl⟩
        · have HU1 := Aside0.mk (show tagsTo s (15 + 1) = tagsTo s 15 by rw [HU.out]; unfold tagAt; rw [if_neg (show ¬ s / 2 ^ 15 % 2 = 1 by simpa using hb), List.append_nil])
          have q1 : (s / 32768 % 2 == 1) = false := beq_false_of_ne hb
          have q2 : decide (s / 32768 % 2 = 1) = false := decide_eq_false hb
          clear hb HU hs
          go_wp2
          go_roundg (17 - (15 + 1))
          case measure => omega
          case rel => exact ⟨16, st, by omega, by omega, rfl, by first | rfl | go_num, ⟨by rw [HO.out]; exact HU1.out.symm⟩, rfl⟩
    · have hd : (⟨#[45]⟩ : ByteArray).toList.isEmpty = false := by rw [ByteArray.toList_eq]; rfl
      have HD := Aside0.mk hd; clear hd
      have hb0 := below_alloc (Below.refl wr.heap.size wr) (.cells #[.string st, .string ⟨#[45]⟩] 9)
      have hnew := al_new wr (.cells #[.string st, .string ⟨#[45]⟩] 9)
      have HB0 := Aside0.mk hb0; have HN := Aside0.mk hnew; clear hb0 hnew
      have HST := Aside0.mk (ofU_tag HO.out)
      go_wp2_with fail
      go_at_call 43
      refine (or2s _ st ⟨#[45]⟩ wr.heap.size (blk_cell HN.out 0) (blk_cell HN.out 1) HD.out).mono ?_
      rintro e w' ⟨rfl, rfl⟩
      generalize (if st.toList.isEmpty = true then (⟨#[45]⟩ : ByteArray) else st) = su at HST ⊢
      have HSL := Aside0.mk (show su.size ≤ 16 by rw [← ofU_len, HST.out]; exact tagT_len s)
      go_wp2_with fail
      go_at_call 19
      refine (impl_word _ w0 g _ su (HP.out.below HB0.out) (by have h1 := HL.out; have h3 := HSL.out; omega)).mono ?_
      rintro e w2 ⟨rfl, hp, hf⟩
      have HP2 := Aside0.mk hp; have HF2 := Aside0.mk ((Fra.below HB0.out).trans hf); clear hp hf
      go_wp2
      refine bodyPost_end (v := .tuple #[]) (by simp [results, Tryz.results21, go_sem]) rfl ⟨rfl, ?_, HF2.out⟩
      rw [← HST.out]
      exact HP2.out
set_option maxRecDepth 100000 in
set_option maxHeartbeats 2000000 in
theorem impl_end (w0 : World) (g : Nat) (l : List Int) (hp : Pr w0 g (l ++ [32]) w) (hl : l.length ≤ 100000000) :
    Calls Tryz.prog 23 #[.pointer (some ⟨g, 0, none⟩)] w fun e w' => e = .returned (.tuple #[]) ∧ Pr w0 g (l ++ [10]) w' ∧ Fra g w w' := by
  obtain ⟨⟨v, h1, h2⟩, h3, h4⟩ := hp
  obtain ⟨b, cap, rfl, hb1, hb2, _⟩ := Kd.R_form h2 (by simp)
  have hlen : (l ++ [(32 : Int)]).length = l.length + 1 := by simp
  rw [hlen] at h1 h2
  clear hlen
  have HG0 := Aside0.mk h1; have HR0 := Aside0.mk h2; have HB0 := Aside0.mk h3; have HE := Aside0.mk h4; have HSZ0 := Aside0.mk (Nat.le_refl w.heap.size); clear h1 h2 h3 h4
  have HLT := Aside0.mk (show l.length < l.length + 1 by omega)
  have q0 : IntKind.i64.wrap (l.length : Int) = (l.length : Int) := IntWalk.i64_in _ (by omega)
  have q3 : (l.length : Int) < (l.length : Int) + 1 := by omega
  go_enter Tryz.func23, Tryz.ntmps23
  go_wp2_with fail
  refine Grow.wp_region_tail 11 (by kernel_rfl) (by kernel_rfl) ?_
  dsimp only [List.take, List.drop]
  refine Grow.lexP_do _ (by rfl) (by rfl) (by intro W hj; obtain ⟨g1, g2⟩ := lay (Below.refl _ _) (blk_below HG0.out hj.out); go_simp; exact Grow.UponB.val) ?_
  refine Grow.lexP_norm (fun K hK => ?_); go_simp; refine hK _ ?_; clear hK K
  refine Grow.lexP_do _ (by rfl) (by rfl) (by intro W hj; obtain ⟨g1, g2⟩ := lay (Below.refl _ _) (blk_below HG0.out hj.out); go_simp; exact Grow.UponB.val) ?_
  refine Grow.lexP_norm (fun K hK => ?_); go_simp; refine hK _ ?_; clear hK K
  refine Grow.lexP_do _ (by rfl) (by rfl) (by intro W hj; obtain ⟨g1, g2⟩ := lay (Below.refl _ _) (blk_below HG0.out hj.out); go_simp; exact Grow.UponB.val) ?_
  refine Grow.lexP_norm (fun K hK => ?_); go_simp; refine hK _ ?_; clear hK K
  refine Grow.lexP_do _ (by rfl) (by rfl) (by intro W hj; obtain ⟨g1, g2⟩ := lay (Below.refl _ _) (blk_below HG0.out hj.out); go_simp; exact Grow.UponB.val) ?_
  refine Grow.lexP_norm (fun K hK => ?_); go_simp; refine hK _ ?_; clear hK K
  refine Grow.lexP_do _ (by rfl) (by rfl) (by intro W hj; obtain ⟨g1, g2⟩ := lay (Below.refl _ _) (blk_below HG0.out hj.out); go_simp; exact Grow.UponB.val) ?_
  refine Grow.lexP_norm (fun K hK => ?_); go_simp; refine hK _ ?_; clear hK K
  refine Grow.lexP_do _ (by rfl) (by rfl) (by intro W hj; obtain ⟨g1, g2⟩ := lay (Below.refl _ _) (blk_below HG0.out hj.out); go_simp; exact Grow.UponB.val) ?_
  refine Grow.lexP_norm (fun K hK => ?_); go_simp; refine hK _ ?_; clear hK K
  refine Grow.lexP_do _ (by rfl) (by rfl) (by intro W hj; obtain ⟨g1, g2⟩ := lay (Below.refl _ _) (blk_below HG0.out hj.out); go_simp; exact Grow.UponB.val) ?_
  refine Grow.lexP_norm (fun K hK => ?_); go_simp; refine hK _ ?_; clear hK K
  refine Grow.lexP_do _ (by rfl) (by rfl) (by intro W hj; obtain ⟨g1, g2⟩ := lay (Below.refl _ _) (blk_below HG0.out hj.out); go_simp; exact Grow.UponB.val) ?_
  refine Grow.lexP_norm (fun K hK => ?_); go_simp; refine hK _ ?_; clear hK K
  refine Grow.lexP_do _ (by rfl) (by rfl) (by intro W hj; obtain ⟨g1, g2⟩ := lay (Below.refl _ _) (blk_below HG0.out hj.out); go_simp; exact Grow.UponB.val) ?_
  refine Grow.lexP_norm (fun K hK => ?_); go_simp; refine hK _ ?_; clear hK K
  refine Grow.lexP_do _ (by rfl) (by rfl) (by intro W hj; obtain ⟨g1, g2⟩ := lay (Below.refl _ _) (blk_below HG0.out hj.out); go_simp; exact Grow.UponB.val) ?_
  refine Grow.lexP_norm (fun K hK => ?_); go_simp; refine hK _ ?_; clear hK K
  refine Grow.lexP_do _ (by rfl) (by rfl) (by intro W hj; obtain ⟨g1, g2⟩ := lay (Below.refl _ _) (blk_below HG0.out hj.out); go_simp; exact Grow.UponB.val) ?_
  refine Grow.lexP_norm (fun K hK => ?_); go_simp; refine hK _ ?_; clear hK K
  refine Grow.lexP_nil (fun w1 hj => ?_)
  have hb := hj.out; clear hj
  have HB1 := Aside0.mk (bel_call HB0.out hb); have HG1 := Aside0.mk (blk_below HG0.out hb); have HR1 := Aside0.mk (Kd.R_below HR0.out hb); have HF1 := Aside0.mk (Fra.below (g := g) hb); clear hb
  go_wp2_with ((with_reducible refine gate_store (t := 5) (p := 12) rfl ?_); refine Kd.flat_store kByte rfl rfl rfl 5 _ _ rfl l.length 10 rfl (Nat.mul_one _).symm rfl (by kernel_rfl) HR1.out HLT.out HB1.out ?_; intro w2 hr hb hg; have HG2 := Aside0.mk (box_grown HG1.out HR1.out hg); have HF2 := Aside0.mk (HF1.out.trans (Fra.grown (g := g) hg (fun i hi => .inr (Ty.row HR1.out i hi)))); have HR2 := Aside0.mk hr; have HB2 := Aside0.mk hb; clear hr hb hg)
  refine bodyPost_end (v := .tuple #[]) (by simp [results, Tryz.results23, go_sem]) rfl ⟨rfl, ⟨⟨_, HG2.out, ?_⟩, HB2.out, HE.out⟩, HF2.out⟩
  have := HR2.out
  rwa [show (l ++ [(32 : Int)]).set l.length 10 = l ++ [10] from by simp] at this
end
end Go.Proofs.YtbccaabaplbmhaaGreatDoor.L1
