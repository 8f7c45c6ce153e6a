/- EncodeCode of the program. -/
import Derived.Test.YtmjpajaeffhdeaaL5d
namespace Go.Proofs.Ytmjpajaeffhdeaa.L1
open Go.RowKit Go.Proofs.YtmjpajaeffhdeaaW.PrintWords Go.Proofs.Ytmjpajaeffhdeaa.B
set_option linter.unusedVariables false
set_option linter.unusedSimpArgs false
attribute [local go_sem] mk_cell mk_frozen
def vars (L : List Int) : List Int := L.flatMap varOf
theorem vars_snoc (L : List Int) (n : Int) : vars (L ++ [n]) = vars L ++ varOf n := by unfold vars; rw [List.flatMap_append]; simp
theorem impl_app (w0 w : World) (v : Value) (L : List Int) (n : Int) (hL : ∀ q, q ∈ L → -1000000000 ≤ q ∧ q ≤ 1000000000) (hn : -1000000000 ≤ n ∧ n ≤ 1000000000) (hl : L.length ≤ 20000000) (hr : kByte.R 5 w w0.heap.size (fun _ => True) v (vars L)) (hb : Below w0.heap.size w0 w) :
    Calls Try.prog 64 #[v, .int .i64 n] w fun e w' => ∃ v1, e = .returned v1 ∧ kByte.R 5 w' w0.heap.size (fun _ => True) v1 (vars (L ++ [n])) ∧ Below w0.heap.size w0 w' ∧ ∀ (g : Nat) (cs : Array Value) (t : TypeId), w.heap[g]? = some (.cells cs t (0, 0)) → 5 ≠ t → w'.heap[g]? = some (.cells cs t (0, 0)) := by
  refine (impl_appendNumber w w0.heap.size w0 v (vars L) n hn hr hb hb.size (by have := vars_len hL; show (L.flatMap varOf).length ≤ _; omega)).mono ?_
  rintro e w' ⟨v1, rfl, h1, h2, h3, _⟩
  exact ⟨v1, rfl, by rw [vars_snoc]; exact h1, h2, fun g cs t hg ht => blk_grown hg h3 (Kd.R_ne hr hg ht)⟩
theorem lit_cell {W : World} {g : Nat} {t : TypeId} {xs : List Int} (h : W.heap[g]? = some (.cells (xs.map (Value.int .i64)).toArray t (0, 0))) (k : Nat) (hk : k < xs.length) : W.cell? ⟨g, k, none⟩ = some (.int .i64 (xs.getD k 0)) := by
  rw [blk_cell h, List.getElem?_toArray, List.getElem?_map, List.getElem?_eq_getElem hk, List.getD_eq_getElem?_getD, List.getElem?_eq_getElem hk]; rfl
theorem take_snoc {α : Type} (xs : List α) (k : Nat) (z : α) (hk : k < xs.length) : xs.take (k + 1) = xs.take k ++ [xs.getD k z] := by
  rw [List.take_add_one, List.getElem?_eq_getElem hk, List.getD_eq_getElem?_getD, List.getElem?_eq_getElem hk]; rfl
section
variable (w : World)
set_option maxRecDepth 100000 in
set_option maxHeartbeats 4000000 in
theorem impl_EncodeCode (v : Value) (x : Code) (hr : ReadCode w v x) : Calls Try.prog 24 #[v] w fun e w' => ∃ u, e = .returned u ∧ kByte.R 5 w' w.heap.size (fun _ => True) u x.bytes ∧ Below w.heap.size w w' := by
  have HX := Aside0.mk hr
  obtain ⟨A0, c0, A1, c1, A2, c2, rfl, r0, r1, r2⟩ := hr
  have m0 := r0.2.1; have m1 := r1.2.1; have m2 := r2.2.1
  have HR := Aside0.mk (And.intro r0 (And.intro r1 r2)); clear r0 r1 r2
  have HB0 := Aside0.mk (below_alloc (Below.refl w.heap.size w) (.cells #[.int .i64 x.regs, .int .i64 x.slots, .slice A0 x.b0.length c0, .slice A1 x.b1.length c1, .slice A2 x.b2.length c2] 32))
  have HC0 := Aside0.mk (al_new w (.cells #[.int .i64 x.regs, .int .i64 x.slots, .slice A0 x.b0.length c0, .slice A1 x.b1.length c1, .slice A2 x.b2.length c2] 32))
  go_enter Try.func24, Try.ntmps24
  go_wp2_with fail
  go_at_call 21
  refine (impl_ValidCode _ _ x (HX.out.below HB0.out)).mono ?_
  rintro e w1 ⟨rfl, hb⟩
  have HB1 := Aside0.mk (bel_call HB0.out hb); have HC1 := Aside0.mk (blk_below HC0.out hb); clear hb HB0 HC0
  cases hv : x.valid with
  | false =>
    have HV := Aside0.mk (show x.bytes = [] by unfold Code.bytes; rw [hv]; rfl); clear hv
    go_wp2
    go_ret
    exact ⟨_, rfl, by rw [HV.out]; exact Kd.R_nil _ _ _ _ _, HB1.out⟩
  | true =>
  have HV := Aside0.mk hv; clear hv
  have HBD := Aside0.mk (Code.numbers_bd HV.out)
  have HLN := Aside0.mk (show x.all.length ≤ 49152 from Code.all_len HV.out)
  obtain ⟨b1, b2⟩ := lay (Below.refl _ _) HC1.out
  go_wp2_with fail
  clear b1 b2
  have HB2 := Aside0.mk (bel_box HB1.out (.cells #[.int .i64 x.regs, .int .i64 x.slots, .int .i64 x.b0.length, .int .i64 x.b1.length, .int .i64 x.b2.length] 2))
  have HC2 := Aside0.mk (blk_box HC1.out (.cells #[.int .i64 x.regs, .int .i64 x.slots, .int .i64 x.b0.length, .int .i64 x.b1.length, .int .i64 x.b2.length] 2))
  have HH2 := Aside0.mk (show (w1.alloc (.cells #[.int .i64 x.regs, .int .i64 x.slots, .int .i64 x.b0.length, .int .i64 x.b1.length, .int .i64 x.b2.length] 2)).heap[w1.heap.size]? = some (.cells (x.head.map (Value.int .i64)).toArray 2) from al_new w1 (.cells #[.int .i64 x.regs, .int .i64 x.slots, .int .i64 x.b0.length, .int .i64 x.b1.length, .int .i64 x.b2.length] 2))
  have HO2 := Aside0.mk (show kByte.R 5 (w1.alloc (.cells #[.int .i64 x.regs, .int .i64 x.slots, .int .i64 x.b0.length, .int .i64 x.b1.length, .int .i64 x.b2.length] 2)) w.heap.size (fun _ => True) (.slice none 0 0) (vars (x.head.take 0)) from Kd.R_nil _ _ _ _ _)
  clear HB1 HC1
  go_loopg [3, 30] 6 (fun q v3 v30 wr => ∃ k, q = 6 - k ∧ k ≤ 5 ∧ v30 = .int .i64 k ∧ Aside0 (kByte.R 5 wr w.heap.size (fun _ => True) v3 (vars (x.head.take k))) ∧ Aside0 (Below w.heap.size w wr) ∧ Aside0 (wr.heap[w.heap.size]? = some (.cells #[.int .i64 x.regs, .int .i64 x.slots, .slice A0 x.b0.length c0, .slice A1 x.b1.length c1, .slice A2 x.b2.length c2] 32)) ∧ Aside0 (wr.heap[w1.heap.size]? = some (.cells (x.head.map (Value.int .i64)).toArray 2)))
  case atStart => exact ⟨0, by omega, by omega, rfl, HO2, HB2, HC2, HH2⟩
  case round =>
    obtain ⟨k, rfl, hk, rfl, HO, HB, HC, HH⟩ := hrel
    clear HO2 HB2 HC2 HH2
    by_cases hlt : k < 5
    · have z := lit_cell HH.out k hlt
      have HT := Aside0.mk (take_snoc x.head k 0 hlt)
      have HBT := Aside0.mk (show ∀ q, q ∈ x.head.take k → -1000000000 ≤ q ∧ q ≤ 1000000000 from fun q hq => HBD.out q (by unfold Code.numbers; exact List.mem_append_left _ (List.mem_of_mem_take hq)))
      have HBN := Aside0.mk (HBD.out (x.head.getD k 0) (by unfold Code.numbers; refine List.mem_append_left _ ?_; rw [List.getD_eq_getElem?_getD, List.getElem?_eq_getElem (show k < x.head.length from hlt)]; exact List.getElem_mem _))
      have HTL := Aside0.mk (show (x.head.take k).length ≤ 20000000 by rw [List.length_take]; omega)
      generalize x.head.getD k 0 = n at z HT HBN
      go_wp2_with fail
      clear z
      go_at_call 64
      refine (impl_app w wr _ (x.head.take k) n HBT.out HBN.out HTL.out HO.out HB.out).mono ?_
      rintro e w5 ⟨u5, rfl, h1, h2, h3⟩
      have HO5 := Aside0.mk h1; have HB5 := Aside0.mk h2; have HC5 := Aside0.mk (h3 _ _ _ HC.out (by decide)); have HH5 := Aside0.mk (h3 _ _ _ HH.out (by decide)); clear h1 h2 h3
      go_wp2
      go_roundg (6 - (k + 1))
      case measure => omega
      case rel => exact ⟨k + 1, rfl, hlt, by go_num, ⟨by rw [HT.out]; exact HO5.out⟩, HB5, HC5, HH5⟩
    · have hk5 : k = 5 := by omega
      subst hk5
      rename World => wa
      have HO5 := Aside0.mk (show kByte.R 5 wa w.heap.size (fun _ => True) _ (vars (x.head ++ (x.upTo 0).flatMap Ins.four)) from HO.out); clear HO
      obtain ⟨b1, b2⟩ := lay (Below.refl _ _) HC.out
      go_wp2_with fail
      clear b1 b2
      have HBB := Aside0.mk (bel_box HB.out (.cells #[.slice A0 x.b0.length c0, .slice A1 x.b1.length c1, .slice A2 x.b2.length c2] 30))
      have HSB := Aside0.mk (al_new wa (.cells #[.slice A0 x.b0.length c0, .slice A1 x.b1.length c1, .slice A2 x.b2.length c2] 30))
      have HOB := Aside0.mk (Kd.R_alloc HO5.out (.cells #[.slice A0 x.b0.length c0, .slice A1 x.b1.length c1, .slice A2 x.b2.length c2] 30))
      have HHB := Aside0.mk (show ∀ q, q ∈ x.head → -1000000000 ≤ q ∧ q ≤ 1000000000 from fun q hq => HBD.out q (by unfold Code.numbers; exact List.mem_append_left _ hq))
      clear HO5 HB HC HH HBD
      go_loopg [3, 46] 4 (fun q v3 v46 wb => ∃ j, q = 4 - j ∧ j ≤ 3 ∧ v46 = .int .i64 j ∧ Aside0 (kByte.R 5 wb w.heap.size (fun _ => True) v3 (vars (x.head ++ (x.upTo j).flatMap Ins.four))) ∧ Aside0 (Below w.heap.size w wb) ∧ Aside0 (wb.heap[wa.heap.size]? = some (.cells #[.slice A0 x.b0.length c0, .slice A1 x.b1.length c1, .slice A2 x.b2.length c2] 30)))
      case atStart => exact ⟨0, by omega, by omega, rfl, HOB, HBB, HSB⟩
      case round =>
        rename World => wb
        obtain ⟨j, rfl, hj, rfl, HO, HB, HS⟩ := hrel
        clear HOB HBB HSB
        by_cases hlt : j < 3
        · have hsl : ∃ A c, wb.cell? ⟨wa.heap.size, j, none⟩ = some (.slice A (x.bl j).length c) ∧ kIns.C w A (x.bl j).length (x.bl j) := by
            rcases (show j = 0 ∨ j = 1 ∨ j = 2 by omega) with rfl | rfl | rfl
            · exact ⟨A0, c0, blk_cell HS.out 0, HR.out.1⟩
            · exact ⟨A1, c1, blk_cell HS.out 1, HR.out.2.1⟩
            · exact ⟨A2, c2, blk_cell HS.out 2, HR.out.2.2⟩
          obtain ⟨R, rc, z0, hR⟩ := hsl
          have HL0B := Aside0.mk (show ∀ q, q ∈ x.head ++ (x.upTo j).flatMap Ins.four → -1000000000 ≤ q ∧ q ≤ 1000000000 from fun q hq => by
            rcases List.mem_append.1 hq with hq | hq
            · exact HHB.out q hq
            · obtain ⟨i, hi, hq⟩ := List.mem_flatMap.1 hq
              exact Code.upTo_bd HV.out j hj i hi q hq)
          have HL0L := Aside0.mk (show (x.head ++ (x.upTo j).flatMap Ins.four).length ≤ 5 + 4 * 3145728 by
            have := Code.upTo_len (Code.few_of HV.out) j hj
            rw [List.length_append, four_len]; show 5 + _ ≤ _; omega)
          have HYB := Aside0.mk (Code.bl_bd HV.out j hlt)
          have HYL := Aside0.mk (Code.good_len HV.out j hlt)
          have HUP := Aside0.mk (show x.head ++ (x.upTo (j + 1)).flatMap Ins.four = x.head ++ (x.upTo j).flatMap Ins.four ++ (x.bl j).flatMap Ins.four by rw [Code.upTo_succ, List.flatMap_append, List.append_assoc])
          have PJ := Aside0.mk (show decide ((j : Int) < 3) = true by simp; omega)
          have HLT := Aside0.mk hlt
          have hyl := HYL.out
          generalize x.bl j = ys at z0 hR HYB HYL HUP hyl
          have hml := hR.2.1
          have HX2 := Aside0.mk hR; clear hR
          generalize x.head ++ (x.upTo j).flatMap Ins.four = L0 at HO HL0B HL0L HUP
          go_wp2_with fail
          clear z0
          rw [PJ.out]
          go_loopg [3, 52] (ys.length + 1) (fun q v3 v52 wk => ∃ k, q = ys.length + 1 - k ∧ k ≤ ys.length ∧ v52 = .int .i64 k ∧ Aside0 (kByte.R 5 wk w.heap.size (fun _ => True) v3 (vars (L0 ++ (ys.take k).flatMap Ins.four))) ∧ Aside0 (Below w.heap.size w wk) ∧ Aside0 (wk.heap[wa.heap.size]? = some (.cells #[.slice A0 x.b0.length c0, .slice A1 x.b1.length c1, .slice A2 x.b2.length c2] 30)))
          case atStart => exact ⟨0, by omega, by omega, rfl, ⟨by rw [List.take_zero, List.flatMap_nil, List.append_nil]; exact HO.out⟩, HB, HS⟩
          case round =>
            rename World => wk
            obtain ⟨k, rfl, hk, rfl, HOk, HBk, HSk⟩ := hrel
            clear HO HB HS
            by_cases hkl : k < ys.length
            · obtain ⟨ad, e0, t0, t1⟩ := Kd.flat_cells (d := kIns) rfl (Kd.C_below HX2.out HBk.out) zIns k hkl
              cases e0
              have HT := Aside0.mk (show L0 ++ (ys.take (k + 1)).flatMap Ins.four = L0 ++ (ys.take k).flatMap Ins.four ++ (ys.getD k zIns).four by rw [take_snoc ys k zIns hkl, List.flatMap_append, List.append_assoc]; simp)
              have HY4 := Aside0.mk (HYB.out (ys.getD k zIns) (by rw [List.getD_eq_getElem?_getD, List.getElem?_eq_getElem hkl]; exact List.getElem_mem hkl))
              generalize hy : ys.getD k zIns = y at t0 t1 HT HY4
              have y0 := t0 _ rfl; have y1 := t1 0 _ rfl; have y2 := t1 1 _ rfl; have y3 := t1 2 _ rfl
              clear t0 t1 hy
              have HL1B := Aside0.mk (show ∀ q, q ∈ L0 ++ (ys.take k).flatMap Ins.four → -1000000000 ≤ q ∧ q ≤ 1000000000 from fun q hq => by
                rcases List.mem_append.1 hq with hq | hq
                · exact HL0B.out q hq
                · obtain ⟨i, hi, hq⟩ := List.mem_flatMap.1 hq
                  exact HYB.out i (List.mem_of_mem_take hi) q hq)
              have HL1L := Aside0.mk (show (L0 ++ (ys.take k).flatMap Ins.four).length ≤ 5 + 4 * 3145728 + 65536 by
                have := HL0L.out; have := HYL.out
                rw [List.length_append, four_len, List.length_take]; omega)
              generalize L0 ++ (ys.take k).flatMap Ins.four = L1 at HOk HT HL1B HL1L
              have PK := Aside0.mk (show decide ((k : Int) < (ys.length : Int)) = true by simp; omega)
              go_wp2_with fail
              clear y0 y1 y2 y3
              try rw [PK.out]
              have HBY := Aside0.mk (bel_box (bel_box HBk.out (.cells #[.int .i64 y.op, .int .i64 y.a, .int .i64 y.b, .int .i64 y.c] 81)) (.cells #[.int .i64 y.op, .int .i64 y.a, .int .i64 y.b, .int .i64 y.c] 2))
              have HSY := Aside0.mk (blk_box (blk_box HSk.out (.cells #[.int .i64 y.op, .int .i64 y.a, .int .i64 y.b, .int .i64 y.c] 81)) (.cells #[.int .i64 y.op, .int .i64 y.a, .int .i64 y.b, .int .i64 y.c] 2))
              have hQ := al_new (wk.alloc (.cells #[.int .i64 y.op, .int .i64 y.a, .int .i64 y.b, .int .i64 y.c] 81)) (.cells #[.int .i64 y.op, .int .i64 y.a, .int .i64 y.b, .int .i64 y.c] 2); rw [al_size] at hQ
              have HQY := Aside0.mk (show ((wk.alloc (.cells #[.int .i64 y.op, .int .i64 y.a, .int .i64 y.b, .int .i64 y.c] 81)).alloc (.cells #[.int .i64 y.op, .int .i64 y.a, .int .i64 y.b, .int .i64 y.c] 2)).heap[wk.heap.size + 1]? = some (.cells (y.four.map (Value.int .i64)).toArray 2) from hQ); clear hQ
              have HOY := Aside0.mk (show kByte.R 5 ((wk.alloc (.cells #[.int .i64 y.op, .int .i64 y.a, .int .i64 y.b, .int .i64 y.c] 81)).alloc (.cells #[.int .i64 y.op, .int .i64 y.a, .int .i64 y.b, .int .i64 y.c] 2)) w.heap.size (fun _ => True) _ (vars (L1 ++ y.four.take 0)) from by rw [List.take_zero, List.append_nil]; exact Kd.R_alloc (Kd.R_alloc HOk.out (.cells #[.int .i64 y.op, .int .i64 y.a, .int .i64 y.b, .int .i64 y.c] 81)) (.cells #[.int .i64 y.op, .int .i64 y.a, .int .i64 y.b, .int .i64 y.c] 2))
              go_loopg [3, 66] 5 (fun q v3 v66 wd => ∃ f, q = 5 - f ∧ f ≤ 4 ∧ v66 = .int .i64 f ∧ Aside0 (kByte.R 5 wd w.heap.size (fun _ => True) v3 (vars (L1 ++ y.four.take f))) ∧ Aside0 (Below w.heap.size w wd) ∧ Aside0 (wd.heap[wa.heap.size]? = some (.cells #[.slice A0 x.b0.length c0, .slice A1 x.b1.length c1, .slice A2 x.b2.length c2] 30)) ∧ Aside0 (wd.heap[wk.heap.size + 1]? = some (.cells (y.four.map (Value.int .i64)).toArray 2)))
              case atStart => exact ⟨0, by omega, by omega, rfl, HOY, HBY, HSY, HQY⟩
              case round =>
                rename World => wd
                obtain ⟨f, rfl, hf, rfl, HOf, HBf, HSf, HQf⟩ := hrel
                clear HOk HBk HSk HOY HBY HSY HQY
                by_cases hfl : f < 4
                · have z := lit_cell HQf.out f hfl
                  have HFT := Aside0.mk (show L1 ++ y.four.take (f + 1) = L1 ++ y.four.take f ++ [y.four.getD f 0] by rw [take_snoc y.four f 0 hfl, List.append_assoc])
                  have HBN := Aside0.mk (HY4.out (y.four.getD f 0) (by rw [List.getD_eq_getElem?_getD, List.getElem?_eq_getElem (show f < y.four.length from hfl)]; exact List.getElem_mem _))
                  have HFB := Aside0.mk (show ∀ q, q ∈ L1 ++ y.four.take f → -1000000000 ≤ q ∧ q ≤ 1000000000 from fun q hq => by
                    rcases List.mem_append.1 hq with hq | hq
                    · exact HL1B.out q hq
                    · exact HY4.out q (List.mem_of_mem_take hq))
                  have HFL := Aside0.mk (show (L1 ++ y.four.take f).length ≤ 20000000 by
                    have := HL1L.out
                    rw [List.length_append, List.length_take]; omega)
                  generalize y.four.getD f 0 = n at z HFT HBN
                  go_wp2_with fail
                  clear z
                  go_at_call 64
                  refine (impl_app w wd _ (L1 ++ y.four.take f) n HFB.out HBN.out HFL.out HOf.out HBf.out).mono ?_
                  rintro e w5 ⟨u5, rfl, h1, h2, h3⟩
                  have HO5 := Aside0.mk h1; have HB5 := Aside0.mk h2; have HS5 := Aside0.mk (h3 _ _ _ HSf.out (by decide)); have HQ5 := Aside0.mk (h3 _ _ _ HQf.out (by decide)); clear h1 h2 h3
                  go_wp2
                  go_roundg (5 - (f + 1))
                  case measure => omega
                  case rel => exact ⟨f + 1, rfl, hfl, by go_num, ⟨by rw [HFT.out]; exact HO5.out⟩, HB5, HS5, HQ5⟩
                · have hf4 : f = 4 := by omega
                  subst hf4
                  go_wp2
                  go_roundg (ys.length + 1 - (k + 1))
                  case measure => omega
                  case rel => exact ⟨k + 1, rfl, hkl, by go_num, ⟨by rw [HT.out]; exact HOf.out⟩, HBf, HSf⟩
            · have hkk : k = ys.length := by omega
              subst hkk
              go_wp2
              go_roundg (4 - (j + 1))
              case measure => omega
              case rel => exact ⟨j + 1, rfl, HLT.out, by go_num, ⟨by rw [HUP.out]; have h := HOk.out; rw [List.take_length] at h; exact h⟩, HBk, HSk⟩
        · have hj3 : j = 3 := by omega
          subst hj3
          have HBY := Aside0.mk (show x.bytes = vars (x.head ++ (x.upTo 3).flatMap Ins.four) by unfold Code.bytes; rw [HV.out]; rfl)
          go_wp2
          go_ret
          exact ⟨_, rfl, by rw [HBY.out]; exact HO.out, HB.out⟩
end
end Go.Proofs.Ytmjpajaeffhdeaa.L1
