/- PrintInst of the program. The print of a valid instance is read as that instance: plain. The print of a valid instance is read as that instance: lines. -/
import Derived.Test.YtbccaabaplbmhaaGreatDoorQT19
import Derived.Test.YtbccaabaplbmhaaGreatDoorQT9
import Derived.Test.YtbccaabaplbmhaaGreatDoorQT8
namespace Go.Proofs.YtbccaabaplbmhaaGreatDoor.L1
open Go.RowKit Go.Proofs.YtbccaabaplbmhaaGreatDoorW.PrintWords Go.Proofs.YtbccaabaplbmhaaGreatDoor.B
set_option linter.unusedVariables false
set_option linter.unusedSimpArgs false
attribute [local go_sem] mk_cell mk_frozen
theorem Tab.on {w w1 : World} (h : Tab w) (hb : Below w.heap.size w w1) : Tab w1 := fun w' hb' => h w' (bel_call hb hb')
theorem end_form (us : List Int) {fs : List (List Int)} (h : fs ≠ []) : ∃ l, us ++ wds fs = l ++ [32] ∧ us ++ lineOf fs = l ++ [10] := by
  obtain ⟨l, h1, h2⟩ := wds_line h
  exact ⟨us ++ l, by rw [h1, List.append_assoc], by rw [h2, List.append_assoc]⟩
theorem tag32 (s : Int) : (tagT s ++ [(32 : Int)]).length = (tagT s).length + 1 := by simp
section
variable (w : World)
set_option maxRecDepth 100000 in
set_option maxHeartbeats 8000000 in
theorem impl_PrintInst (v : Value) (x : Inst) (hr : ReadInst w v x) (ht : Tab w) : Calls Tryz.prog 6 #[v] w fun e w' => ∃ u, e = .returned u ∧ kByte.R 5 w' w.heap.size (fun _ => True) u x.print ∧ Below w.heap.size w w' := by
  have HX := Aside0.mk hr; have HT := Aside0.mk ht; clear ht
  obtain ⟨A0, c0, A1, c1, A2, c2, rfl, r0, r1, r2⟩ := hr
  have m0 := r0.2.1; have m1 := r1.2.1; have m2 := r2.2.1
  have HRA := Aside0.mk (And.intro r0 (And.intro r1 r2)); clear r0 r1 r2
  have HB0 := Aside0.mk (below_alloc (Below.refl w.heap.size w) (.cells #[.slice A0 x.vs.length c0, .slice A1 x.qs.length c1, .slice A2 x.rs.length c2] 27))
  have HC0 := Aside0.mk (al_new w (.cells #[.slice A0 x.vs.length c0, .slice A1 x.qs.length c1, .slice A2 x.rs.length c2] 27))
  go_enter Tryz.func6, Tryz.ntmps6
  go_wp2_with fail
  go_at_call 18
  refine (impl_validInst _ _ x (HX.out.below HB0.out)).mono ?_
  rintro e w1 ⟨rfl, hb⟩
  have HB1 := Aside0.mk (bel_call HB0.out hb); have HC1 := Aside0.mk (blk_below HC0.out hb); clear hb HB0 HC0
  cases hv : x.valid with
  | false =>
    have HV := Aside0.mk (show x.print = [] by unfold Inst.print; rw [hv]; rfl); clear hv
    go_wp2
    go_ret
    exact ⟨_, rfl, by rw [HV.out]; exact Kd.R_nil _ _ _ _ _, HB1.out⟩
  | true =>
  have HF := Aside0.mk (Inst.fit_of hv)
  have HV := Aside0.mk (show x.print = x.text by unfold Inst.print; rw [hv]; rfl); clear hv
  have HR := Aside0.mk (show kVeh.C w1 A0 x.vs.length x.vs ∧ kReq.C w1 A1 x.qs.length x.qs ∧ kRoad.C w1 A2 x.rs.length x.rs from ⟨Kd.C_below HRA.out.1 HB1.out, Kd.C_below HRA.out.2.1 HB1.out, Kd.C_below HRA.out.2.2 HB1.out⟩); clear HRA
  have HT1 := Aside0.mk (HT.out.on HB1.out)
  have HN := Aside0.mk (And.intro HF.out.nv (And.intro HF.out.nq HF.out.nr))
  have HPX := Aside0.mk (show Pr w1 w1.heap.size [] (w1.alloc (.cells #[.slice none 0 0] 55)) from ⟨⟨_, al_new _ _, Kd.R_nil _ _ _ _ _⟩, below_alloc (Below.refl _ _) _, Nat.le_refl _⟩)
  generalize hg : w1.heap.size = g at HPX
  have HG := Aside0.mk hg
  obtain ⟨b1, b2⟩ := lay (Below.refl _ _) (blk_box HC1.out (.cells #[.slice none 0 0] 55))
  go_wp2_with fail
  clear b1 b2
  go_loopg [16] (x.vs.length + 1) (fun q v16 wr => ∃ j : Nat, q = x.vs.length + 1 - j ∧ j ≤ x.vs.length ∧ v16 = .int .i64 j ∧ Aside0 (Pr w1 g (lines Veh.flds (x.vs.take j)) wr))
  case atStart => exact ⟨0, by omega, by omega, rfl, ⟨by rw [List.take_zero]; exact HPX.out⟩⟩
  case round =>
    obtain ⟨j, rfl, hj, rfl, HPj⟩ := hrel
    clear HPX
    by_cases hlt : j < x.vs.length
    · obtain ⟨ad, e0, t0, t1⟩ := Kd.flat_cells (d := kVeh) rfl (Kd.C_below HR.out.1 HPj.out.low) zV j hlt
      have HU := Aside0.mk (show (lines Veh.flds (x.vs.take (j + 1))) = (lines Veh.flds (x.vs.take j)) ++ lineOf (Veh.flds (x.vs.getD j zV)) by rw [lines_succ Veh.flds x.vs zV j hlt])
      have HY := Aside0.mk (fit_at HF.out.vs zV hlt)
      have HLL := Aside0.mk (show (lines Veh.flds (x.vs.take j)).length ≤ 4000000 by have h1 := lines_take_len Veh.flds x.vs (fun a ha => Veh.line_len (HF.out.vs a ha)) j; have h3 := HN.out; skip; omega)
      generalize (lines Veh.flds (x.vs.take j)) = us at HPj HU HLL
      generalize hy : x.vs.getD j zV = y at t0 t1 HU HY
      have y0 := t0 _ rfl; have y1 := t1 0 _ rfl; have y2 := t1 1 _ rfl; have y3 := t1 2 _ rfl; have y4 := t1 3 _ rfl; have y5 := t1 4 _ rfl; have y6 := t1 5 _ rfl
      clear t0 t1 hy; cases e0
      have HQW := Aside0.mk (wds_len (Veh.flds_len HY.out))
      have HVa := Aside0.mk (al_new wr (.cells #[.int .i64 y.room, .int .i64 y.skills, .int .i64 y.home.x, .int .i64 y.home.y, .int .i64 y.home.o, .int .i64 y.home.c, .int .i64 y.home.h] 45))
      have HPa := Aside0.mk (HPj.out.below (below_alloc (Below.refl _ _) (.cells #[.int .i64 y.room, .int .i64 y.skills, .int .i64 y.home.x, .int .i64 y.home.y, .int .i64 y.home.o, .int .i64 y.home.c, .int .i64 y.home.h] 45)))
      have hgv : wr.heap.size ≠ g := by have := HPj.out.lt; omega
      go_wp2_with fail
      clear y0 y1 y2 y3 y4 y5 y6
      have HW0 := Aside0.mk (show ofU (⟨#[118, 101, 104, 105, 99, 108, 101]⟩ : ByteArray).data.toList = wVehicle from rfl)
      go_at_call 19
      refine (impl_word _ w1 g us ⟨#[118, 101, 104, 105, 99, 108, 101]⟩ HPa.out (by have h1 := HLL.out; show us.length + 7 ≤ _; omega)).mono ?_
      rintro e wb ⟨rfl, hp, hf⟩
      have HPb := Aside0.mk hp; have HVb := Aside0.mk (Fra.at hf hgv HVa.out (by decide)); clear hp hf
      rw [HW0.out] at HPb
      have HSb := Aside0.mk (show (us ++ (wVehicle ++ [32])).length ≤ 4000020 by simp only [List.length_append, List.length_cons, List.length_nil]; have h1 := HLL.out; show us.length + (7 + 1) ≤ _; omega)
      obtain ⟨v1, v2⟩ := lay (Below.refl _ _) HVb.out
      go_wp2_with fail
      clear v1 v2
      have HNb := Aside0.mk (al_new wb (.cells #[.int .i64 y.room] 2))
      have HVb' := Aside0.mk (blk_box HVb.out (.cells #[.int .i64 y.room] 2)); have HPb' := Aside0.mk (HPb.out.below (below_alloc (Below.refl _ _) (.cells #[.int .i64 y.room] 2)))
      have hnb : wb.heap.size ≠ g := by have := HPb.out.lt; omega
      clear HVb HPb
      have HVb := HVb'; have HPb := HPb'; clear HVb' HPb'
      go_at_call 20
      refine (impl_nums _ w1 HT1.out g wb.heap.size (us ++ (wVehicle ++ [32])) [y.room] HPb.out HNb.out hnb (by intro q hq; simp only [List.mem_cons, List.not_mem_nil, or_false] at hq; subst hq; exact HY.out.room) (by show (1 : Nat) ≤ 10; decide) (by have := HSb.out; omega)).mono ?_
      rintro e wc ⟨rfl, hp, hf⟩
      have HPc := Aside0.mk hp; have HVc := Aside0.mk (Fra.at hf hgv HVb.out (by decide)); clear hp hf
      have HWc := Aside0.mk (wds_nums_len (xs := [y.room]) (by intro q hq; simp only [List.mem_cons, List.not_mem_nil, or_false] at hq; subst hq; exact HY.out.room) 1 (by show (1 : Nat) ≤ 10; decide))
      rw [show [y.room].take 1 = [y.room] from rfl] at HWc
      have HSc := Aside0.mk (show ((us ++ (wVehicle ++ [32])) ++ wds ([y.room].map dec)).length ≤ 4000200 by rw [List.length_append]; have h1 := HSb.out; have h2 := HWc.out; omega)
      obtain ⟨v1, v2⟩ := lay (Below.refl _ _) HVc.out
      go_wp2_with fail
      clear v1 v2
      go_at_call 21
      refine (impl_tags _ w1 g ((us ++ (wVehicle ++ [32])) ++ wds ([y.room].map dec)) y.skills HY.out.skills HPc.out (by have := HSc.out; omega)).mono ?_
      rintro e wd ⟨rfl, hp, hf⟩
      have HPd := Aside0.mk hp; have HVd := Aside0.mk (Fra.at hf hgv HVc.out (by decide)); clear hp hf
      have HSd := Aside0.mk (show (((us ++ (wVehicle ++ [32])) ++ wds ([y.room].map dec)) ++ (tagT y.skills ++ [32])).length ≤ 4000300 by rw [List.length_append, tag32]; have h1 := HSc.out; have h2 := tagT_len y.skills; omega)
      obtain ⟨v1, v2⟩ := lay (Below.refl _ _) HVd.out
      go_wp2_with fail
      clear v1 v2
      go_at_call 22
      refine (impl_place _ w1 HT1.out g (((us ++ (wVehicle ++ [32])) ++ wds ([y.room].map dec)) ++ (tagT y.skills ++ [32])) y.home HPd.out HY.out.home (by have := HSd.out; omega)).mono ?_
      rintro e we ⟨rfl, hp, hf⟩
      have HPe := Aside0.mk hp; have HVe := Aside0.mk (Fra.at hf hgv HVd.out (by decide)); clear hp hf
      have HSe := Aside0.mk (show ((((us ++ (wVehicle ++ [32])) ++ wds ([y.room].map dec)) ++ (tagT y.skills ++ [32])) ++ wds y.home.flds).length ≤ 4000400 by rw [List.length_append]; have h1 := HSd.out; have h2 := wds_len (Place.flds_len HY.out.home); have h3 : y.home.flds.length = 5 := rfl; omega)
      have HEQ := Aside0.mk (show ((((us ++ (wVehicle ++ [32])) ++ wds ([y.room].map dec)) ++ (tagT y.skills ++ [32])) ++ wds y.home.flds) = us ++ wds y.flds by simp [wds, Veh.flds])
      obtain ⟨l, h32, h10⟩ := end_form us (fs := y.flds) (by simp [Veh.flds])
      rw [HEQ.out, h32] at HPe HSe
      go_wp2_with fail
      go_at_call 23
      refine (impl_end _ w1 g l HPe.out (by have h := HSe.out; rw [List.length_append] at h; omega)).mono ?_
      rintro e wz ⟨rfl, hp, hf⟩
      have HPz := Aside0.mk (show Pr w1 g (lines Veh.flds (x.vs.take (j + 1))) wz by rw [HU.out, h10]; exact hp); clear hp hf
      clear h32 h10
      go_wp2
      go_roundg (x.vs.length + 1 - (j + 1))
      case measure => omega
      case rel => exact ⟨j + 1, rfl, by omega, by go_num, HPz⟩
    · have hje : j = x.vs.length := by omega
      subst hje
      have HPX := HPj; clear HPj
      rw [List.take_length] at HPX
      have HDL := Aside0.mk (show (lines Veh.flds x.vs).length ≤ 400000 by have h1 := lines_take_len Veh.flds x.vs (fun a ha => Veh.line_len (HF.out.vs a ha)) x.vs.length; rw [List.take_length] at h1; have h3 := HN.out; skip; omega)
      obtain ⟨p1, p2⟩ := lay (Below.refl _ _) (blk_below HC1.out HPX.out.low)
      go_wp2_with fail
      clear p1 p2
      go_loopg [36] (x.qs.length + 1) (fun q v36 wr => ∃ j : Nat, q = x.qs.length + 1 - j ∧ j ≤ x.qs.length ∧ v36 = .int .i64 j ∧ Aside0 (Pr w1 g ((lines Veh.flds x.vs) ++ lines Req.flds (x.qs.take j)) wr))
      case atStart => exact ⟨0, by omega, by omega, rfl, ⟨by rw [List.take_zero]; rw [show lines Req.flds [] = [] from rfl, List.append_nil]; exact HPX.out⟩⟩
      case round =>
        obtain ⟨j, rfl, hj, rfl, HPj⟩ := hrel
        clear HPX
        by_cases hlt : j < x.qs.length
        · obtain ⟨ad, e0, t0, t1⟩ := Kd.flat_cells (d := kReq) rfl (Kd.C_below HR.out.2.1 HPj.out.low) zQ j hlt
          have HU := Aside0.mk (show ((lines Veh.flds x.vs) ++ lines Req.flds (x.qs.take (j + 1))) = ((lines Veh.flds x.vs) ++ lines Req.flds (x.qs.take j)) ++ lineOf (Req.flds (x.qs.getD j zQ)) by rw [lines_succ Req.flds x.qs zQ j hlt]; simp only [List.append_assoc])
          have HY := Aside0.mk (fit_at HF.out.qs zQ hlt)
          have HLL := Aside0.mk (show ((lines Veh.flds x.vs) ++ lines Req.flds (x.qs.take j)).length ≤ 4000000 by have h1 := lines_take_len Req.flds x.qs (fun a ha => Req.line_len (HF.out.qs a ha)) j; have h3 := HN.out; rw [List.length_append]; have h4 := HDL.out; omega)
          generalize ((lines Veh.flds x.vs) ++ lines Req.flds (x.qs.take j)) = us at HPj HU HLL
          generalize hy : x.qs.getD j zQ = y at t0 t1 HU HY
          have y0 := t0 _ rfl; have y1 := t1 0 _ rfl; have y2 := t1 1 _ rfl; have y3 := t1 2 _ rfl; have y4 := t1 3 _ rfl; have y5 := t1 4 _ rfl; have y6 := t1 5 _ rfl; have y7 := t1 6 _ rfl; have y8 := t1 7 _ rfl; have y9 := t1 8 _ rfl; have y10 := t1 9 _ rfl; have y11 := t1 10 _ rfl
          clear t0 t1 hy; cases e0
          have HQW := Aside0.mk (wds_len (Req.flds_len HY.out))
          have HVa := Aside0.mk (al_new wr (.cells #[.int .i64 y.size, .int .i64 y.tags, .int .i64 y.from_.x, .int .i64 y.from_.y, .int .i64 y.from_.o, .int .i64 y.from_.c, .int .i64 y.from_.h, .int .i64 y.to_.x, .int .i64 y.to_.y, .int .i64 y.to_.o, .int .i64 y.to_.c, .int .i64 y.to_.h] 48))
          have HPa := Aside0.mk (HPj.out.below (below_alloc (Below.refl _ _) (.cells #[.int .i64 y.size, .int .i64 y.tags, .int .i64 y.from_.x, .int .i64 y.from_.y, .int .i64 y.from_.o, .int .i64 y.from_.c, .int .i64 y.from_.h, .int .i64 y.to_.x, .int .i64 y.to_.y, .int .i64 y.to_.o, .int .i64 y.to_.c, .int .i64 y.to_.h] 48)))
          have hgv : wr.heap.size ≠ g := by have := HPj.out.lt; omega
          go_wp2_with fail
          clear y0 y1 y2 y3 y4 y5 y6 y7 y8 y9 y10 y11
          have HW0 := Aside0.mk (show ofU (⟨#[114, 101, 113, 117, 101, 115, 116]⟩ : ByteArray).data.toList = wRequest from rfl)
          go_at_call 19
          refine (impl_word _ w1 g us ⟨#[114, 101, 113, 117, 101, 115, 116]⟩ HPa.out (by have h1 := HLL.out; show us.length + 7 ≤ _; omega)).mono ?_
          rintro e wb ⟨rfl, hp, hf⟩
          have HPb := Aside0.mk hp; have HVb := Aside0.mk (Fra.at hf hgv HVa.out (by decide)); clear hp hf
          rw [HW0.out] at HPb
          have HSb := Aside0.mk (show (us ++ (wRequest ++ [32])).length ≤ 4000020 by simp only [List.length_append, List.length_cons, List.length_nil]; have h1 := HLL.out; show us.length + (7 + 1) ≤ _; omega)
          obtain ⟨v1, v2⟩ := lay (Below.refl _ _) HVb.out
          go_wp2_with fail
          clear v1 v2
          have HNb := Aside0.mk (al_new wb (.cells #[.int .i64 y.size] 2))
          have HVb' := Aside0.mk (blk_box HVb.out (.cells #[.int .i64 y.size] 2)); have HPb' := Aside0.mk (HPb.out.below (below_alloc (Below.refl _ _) (.cells #[.int .i64 y.size] 2)))
          have hnb : wb.heap.size ≠ g := by have := HPb.out.lt; omega
          clear HVb HPb
          have HVb := HVb'; have HPb := HPb'; clear HVb' HPb'
          go_at_call 20
          refine (impl_nums _ w1 HT1.out g wb.heap.size (us ++ (wRequest ++ [32])) [y.size] HPb.out HNb.out hnb (by intro q hq; simp only [List.mem_cons, List.not_mem_nil, or_false] at hq; subst hq; exact HY.out.size) (by show (1 : Nat) ≤ 10; decide) (by have := HSb.out; omega)).mono ?_
          rintro e wc ⟨rfl, hp, hf⟩
          have HPc := Aside0.mk hp; have HVc := Aside0.mk (Fra.at hf hgv HVb.out (by decide)); clear hp hf
          have HWc := Aside0.mk (wds_nums_len (xs := [y.size]) (by intro q hq; simp only [List.mem_cons, List.not_mem_nil, or_false] at hq; subst hq; exact HY.out.size) 1 (by show (1 : Nat) ≤ 10; decide))
          rw [show [y.size].take 1 = [y.size] from rfl] at HWc
          have HSc := Aside0.mk (show ((us ++ (wRequest ++ [32])) ++ wds ([y.size].map dec)).length ≤ 4000200 by rw [List.length_append]; have h1 := HSb.out; have h2 := HWc.out; omega)
          obtain ⟨v1, v2⟩ := lay (Below.refl _ _) HVc.out
          go_wp2_with fail
          clear v1 v2
          go_at_call 21
          refine (impl_tags _ w1 g ((us ++ (wRequest ++ [32])) ++ wds ([y.size].map dec)) y.tags HY.out.tags HPc.out (by have := HSc.out; omega)).mono ?_
          rintro e wd ⟨rfl, hp, hf⟩
          have HPd := Aside0.mk hp; have HVd := Aside0.mk (Fra.at hf hgv HVc.out (by decide)); clear hp hf
          have HSd := Aside0.mk (show (((us ++ (wRequest ++ [32])) ++ wds ([y.size].map dec)) ++ (tagT y.tags ++ [32])).length ≤ 4000300 by rw [List.length_append, tag32]; have h1 := HSc.out; have h2 := tagT_len y.tags; omega)
          obtain ⟨v1, v2⟩ := lay (Below.refl _ _) HVd.out
          go_wp2_with fail
          clear v1 v2
          go_at_call 22
          refine (impl_place _ w1 HT1.out g (((us ++ (wRequest ++ [32])) ++ wds ([y.size].map dec)) ++ (tagT y.tags ++ [32])) y.from_ HPd.out HY.out.from_ (by have := HSd.out; omega)).mono ?_
          rintro e we ⟨rfl, hp, hf⟩
          have HPe := Aside0.mk hp; have HVe := Aside0.mk (Fra.at hf hgv HVd.out (by decide)); clear hp hf
          have HSe := Aside0.mk (show ((((us ++ (wRequest ++ [32])) ++ wds ([y.size].map dec)) ++ (tagT y.tags ++ [32])) ++ wds y.from_.flds).length ≤ 4000400 by rw [List.length_append]; have h1 := HSd.out; have h2 := wds_len (Place.flds_len HY.out.from_); have h3 : y.from_.flds.length = 5 := rfl; omega)
          obtain ⟨v1, v2⟩ := lay (Below.refl _ _) HVe.out
          go_wp2_with fail
          clear v1 v2
          go_at_call 22
          refine (impl_place _ w1 HT1.out g ((((us ++ (wRequest ++ [32])) ++ wds ([y.size].map dec)) ++ (tagT y.tags ++ [32])) ++ wds y.from_.flds) y.to_ HPe.out HY.out.to_ (by have := HSe.out; omega)).mono ?_
          rintro e wf ⟨rfl, hp, hf⟩
          have HPf := Aside0.mk hp; have HVf := Aside0.mk (Fra.at hf hgv HVe.out (by decide)); clear hp hf
          have HSf := Aside0.mk (show (((((us ++ (wRequest ++ [32])) ++ wds ([y.size].map dec)) ++ (tagT y.tags ++ [32])) ++ wds y.from_.flds) ++ wds y.to_.flds).length ≤ 4000500 by rw [List.length_append]; have h1 := HSe.out; have h2 := wds_len (Place.flds_len HY.out.to_); have h3 : y.to_.flds.length = 5 := rfl; omega)
          have HEQ := Aside0.mk (show (((((us ++ (wRequest ++ [32])) ++ wds ([y.size].map dec)) ++ (tagT y.tags ++ [32])) ++ wds y.from_.flds) ++ wds y.to_.flds) = us ++ wds y.flds by simp [wds, Req.flds])
          obtain ⟨l, h32, h10⟩ := end_form us (fs := y.flds) (by simp [Req.flds])
          rw [HEQ.out, h32] at HPf HSf
          go_wp2_with fail
          go_at_call 23
          refine (impl_end _ w1 g l HPf.out (by have h := HSf.out; rw [List.length_append] at h; omega)).mono ?_
          rintro e wz ⟨rfl, hp, hf⟩
          have HPz := Aside0.mk (show Pr w1 g ((lines Veh.flds x.vs) ++ lines Req.flds (x.qs.take (j + 1))) wz by rw [HU.out, h10]; exact hp); clear hp hf
          clear h32 h10
          go_wp2
          go_roundg (x.qs.length + 1 - (j + 1))
          case measure => omega
          case rel => exact ⟨j + 1, rfl, by omega, by go_num, HPz⟩
        · have hje : j = x.qs.length := by omega
          subst hje
          have HPX := HPj; clear HPj
          rw [List.take_length] at HPX
          have HDL := Aside0.mk (show ((lines Veh.flds x.vs) ++ lines Req.flds x.qs).length ≤ 1600000 by have h1 := lines_take_len Req.flds x.qs (fun a ha => Req.line_len (HF.out.qs a ha)) x.qs.length; rw [List.take_length] at h1; have h3 := HN.out; rw [List.length_append]; have h4 := HDL.out; omega)
          obtain ⟨p1, p2⟩ := lay (Below.refl _ _) (blk_below HC1.out HPX.out.low)
          go_wp2_with fail
          clear p1 p2
          go_loopg [59] (x.rs.length + 1) (fun q v59 wr => ∃ j : Nat, q = x.rs.length + 1 - j ∧ j ≤ x.rs.length ∧ v59 = .int .i64 j ∧ Aside0 (Pr w1 g (((lines Veh.flds x.vs) ++ lines Req.flds x.qs) ++ lines Road.flds (x.rs.take j)) wr))
          case atStart => exact ⟨0, by omega, by omega, rfl, ⟨by rw [List.take_zero]; rw [show lines Road.flds [] = [] from rfl, List.append_nil]; exact HPX.out⟩⟩
          case round =>
            obtain ⟨j, rfl, hj, rfl, HPj⟩ := hrel
            clear HPX
            by_cases hlt : j < x.rs.length
            · obtain ⟨ad, e0, t0, t1⟩ := Kd.flat_cells (d := kRoad) rfl (Kd.C_below HR.out.2.2 HPj.out.low) zR j hlt
              have HU := Aside0.mk (show (((lines Veh.flds x.vs) ++ lines Req.flds x.qs) ++ lines Road.flds (x.rs.take (j + 1))) = (((lines Veh.flds x.vs) ++ lines Req.flds x.qs) ++ lines Road.flds (x.rs.take j)) ++ lineOf (Road.flds (x.rs.getD j zR)) by rw [lines_succ Road.flds x.rs zR j hlt]; simp only [List.append_assoc])
              have HY := Aside0.mk (fit_at HF.out.rs zR hlt)
              have HLL := Aside0.mk (show (((lines Veh.flds x.vs) ++ lines Req.flds x.qs) ++ lines Road.flds (x.rs.take j)).length ≤ 4000000 by have h1 := lines_take_len Road.flds x.rs (fun a ha => Road.line_len (HF.out.rs a ha)) j; have h3 := HN.out; rw [List.length_append]; have h4 := HDL.out; omega)
              generalize (((lines Veh.flds x.vs) ++ lines Req.flds x.qs) ++ lines Road.flds (x.rs.take j)) = us at HPj HU HLL
              generalize hy : x.rs.getD j zR = y at t0 t1 HU HY
              have y0 := t0 _ rfl; have y1 := t1 0 _ rfl; have y2 := t1 1 _ rfl
              clear t0 t1 hy; cases e0
              have HQW := Aside0.mk (wds_len (Road.flds_len HY.out))
              have HVa := Aside0.mk (al_new wr (.cells #[.int .i64 y.a, .int .i64 y.b, .int .i64 y.t] 51))
              have HPa := Aside0.mk (HPj.out.below (below_alloc (Below.refl _ _) (.cells #[.int .i64 y.a, .int .i64 y.b, .int .i64 y.t] 51)))
              have hgv : wr.heap.size ≠ g := by have := HPj.out.lt; omega
              go_wp2_with fail
              clear y0 y1 y2
              have HW0 := Aside0.mk (show ofU (⟨#[114, 111, 97, 100]⟩ : ByteArray).data.toList = wRoad from rfl)
              go_at_call 19
              refine (impl_word _ w1 g us ⟨#[114, 111, 97, 100]⟩ HPa.out (by have h1 := HLL.out; show us.length + 4 ≤ _; omega)).mono ?_
              rintro e wb ⟨rfl, hp, hf⟩
              have HPb := Aside0.mk hp; have HVb := Aside0.mk (Fra.at hf hgv HVa.out (by decide)); clear hp hf
              rw [HW0.out] at HPb
              have HSb := Aside0.mk (show (us ++ (wRoad ++ [32])).length ≤ 4000020 by simp only [List.length_append, List.length_cons, List.length_nil]; have h1 := HLL.out; show us.length + (4 + 1) ≤ _; omega)
              obtain ⟨v1, v2⟩ := lay (Below.refl _ _) HVb.out
              go_wp2_with fail
              clear v1 v2
              have HNb := Aside0.mk (al_new wb (.cells #[.int .i64 y.a, .int .i64 y.b, .int .i64 y.t] 2))
              have HVb' := Aside0.mk (blk_box HVb.out (.cells #[.int .i64 y.a, .int .i64 y.b, .int .i64 y.t] 2)); have HPb' := Aside0.mk (HPb.out.below (below_alloc (Below.refl _ _) (.cells #[.int .i64 y.a, .int .i64 y.b, .int .i64 y.t] 2)))
              have hnb : wb.heap.size ≠ g := by have := HPb.out.lt; omega
              clear HVb HPb
              have HVb := HVb'; have HPb := HPb'; clear HVb' HPb'
              go_at_call 20
              refine (impl_nums _ w1 HT1.out g wb.heap.size (us ++ (wRoad ++ [32])) [y.a, y.b, y.t] HPb.out HNb.out hnb (by intro q hq; simp only [List.mem_cons, List.not_mem_nil, or_false] at hq; rcases hq with rfl | rfl | rfl; exact HY.out.a; exact HY.out.b; exact HY.out.t) (by show (3 : Nat) ≤ 10; decide) (by have := HSb.out; omega)).mono ?_
              rintro e wc ⟨rfl, hp, hf⟩
              have HPc := Aside0.mk hp; have HVc := Aside0.mk (Fra.at hf hgv HVb.out (by decide)); clear hp hf
              have HWc := Aside0.mk (wds_nums_len (xs := [y.a, y.b, y.t]) (by intro q hq; simp only [List.mem_cons, List.not_mem_nil, or_false] at hq; rcases hq with rfl | rfl | rfl; exact HY.out.a; exact HY.out.b; exact HY.out.t) 3 (by show (3 : Nat) ≤ 10; decide))
              rw [show [y.a, y.b, y.t].take 3 = [y.a, y.b, y.t] from rfl] at HWc
              have HSc := Aside0.mk (show ((us ++ (wRoad ++ [32])) ++ wds ([y.a, y.b, y.t].map dec)).length ≤ 4000200 by rw [List.length_append]; have h1 := HSb.out; have h2 := HWc.out; omega)
              have HEQ := Aside0.mk (show ((us ++ (wRoad ++ [32])) ++ wds ([y.a, y.b, y.t].map dec)) = us ++ wds y.flds by simp [wds, Road.flds])
              obtain ⟨l, h32, h10⟩ := end_form us (fs := y.flds) (by simp [Road.flds])
              rw [HEQ.out, h32] at HPc HSc
              go_wp2_with fail
              go_at_call 23
              refine (impl_end _ w1 g l HPc.out (by have h := HSc.out; rw [List.length_append] at h; omega)).mono ?_
              rintro e wz ⟨rfl, hp, hf⟩
              have HPz := Aside0.mk (show Pr w1 g (((lines Veh.flds x.vs) ++ lines Req.flds x.qs) ++ lines Road.flds (x.rs.take (j + 1))) wz by rw [HU.out, h10]; exact hp); clear hp hf
              clear h32 h10
              go_wp2
              go_roundg (x.rs.length + 1 - (j + 1))
              case measure => omega
              case rel => exact ⟨j + 1, rfl, by omega, by go_num, HPz⟩
            · have hje : j = x.rs.length := by omega
              subst hje
              have HPX := HPj; clear HPj
              rw [List.take_length] at HPX
              have HTX := Aside0.mk (show x.text = (((lines Veh.flds x.vs) ++ lines Req.flds x.qs) ++ lines Road.flds x.rs) from rfl)
              generalize (((lines Veh.flds x.vs) ++ lines Req.flds x.qs) ++ lines Road.flds x.rs) = fin at HPX HTX
              obtain ⟨⟨vv, hgv, hrv⟩, hlow, hge⟩ := HPX.out
              obtain ⟨p1, p2⟩ := lay (Below.refl _ _) hgv
              obtain ⟨Av, cv, rfl⟩ := Kd.R_slice hrv
              have HRV := Aside0.mk hrv; have HLW := Aside0.mk hlow; clear hgv hrv hlow hge
              go_wp2
              go_ret
              exact ⟨_, rfl, by rw [HV.out, HTX.out]; exact Kd.R_lower HRV.out HB1.out.size, bel_call HB1.out HLW.out⟩
end
end Go.Proofs.YtbccaabaplbmhaaGreatDoor.L1
namespace Go.Proofs.YtbccaabaplbmhaaGreatDoor.L1
open Go.RowKit Go.Proofs.YtbccaabaplbmhaaGreatDoorW.PrintWords Go.Proofs.YtbccaabaplbmhaaGreatDoor.B
set_option linter.unusedVariables false
set_option linter.unusedSimpArgs false
-- numbers
theorem numTail_dec (n : Int) : numTail (dec n) = digs n.natAbs := by
  unfold numTail dec
  by_cases h : n < 0
  · rw [if_pos h, if_pos (by rfl)]
    show digs _ = _
    congr 1; omega
  · rw [if_neg h, show n.toNat = n.natAbs by omega, if_neg]
    have := digs_first n.natAbs
    omega
theorem dec_small {n : Int} (h : -1000000 ≤ n ∧ n ≤ 1000000) : isNum (dec n) = true ∧ numVal (dec n) = n ∧ (dec n).length ≤ 8 := by
  have h1 : (digs n.natAbs).length ≤ 7 := digs_len 6 _ (by omega)
  have h2 : (numTail (dec n)).length ≤ 9 := by rw [numTail_dec]; omega
  refine ⟨(dec_isNum h2).1, (dec_isNum h2).2, ?_⟩
  rw [← numTail_dec] at h1
  unfold numTail at h1
  split at h1
  · rw [List.length_drop] at h1; omega
  · omega
theorem dec_mem {n c : Int} (h : c ∈ dec n) : c = 45 ∨ isDig c := by
  unfold dec at h
  split at h
  · rcases List.mem_cons.1 h with h | h
    · exact Or.inl h
    · exact Or.inr (digs_mem _ _ h)
  · exact Or.inr (digs_mem _ _ h)
-- tags
theorem getD_app {f g : List Int} {k : Nat} (h : k < f.length) : (f ++ g).getD k 0 = f.getD k 0 := by
  rw [List.getD_eq_getElem?_getD, List.getElem?_append_left h, ← List.getD_eq_getElem?_getD]
theorem getD_last (f : List Int) (x : Int) : (f ++ [x]).getD f.length 0 = x := by
  rw [List.getD_eq_getElem?_getD, List.getElem?_append_right (Nat.le_refl _), Nat.sub_self]; rfl
theorem mod_twice (s P : Int) (hP : 0 < P) : s % (P * 2) = s % P + P * (s / P % 2) := by
  have h1 := Int.emod_add_mul_ediv s P
  have h2 := Int.emod_add_mul_ediv (s / P) 2
  have h3 := Int.emod_nonneg s (show P ≠ 0 by omega)
  have h4 := Int.emod_lt_of_pos s hP
  have h5 : s / P % 2 = 0 ∨ s / P % 2 = 1 := by omega
  generalize s % P = r at *
  generalize s / P = q at *
  generalize q / 2 = u at *
  generalize q % 2 = t at *
  subst h2
  have e : s = (r + P * t) + P * 2 * u := by rw [← h1, Int.mul_add, ← Int.mul_assoc, Int.add_assoc]
  rw [e, Int.add_mul_emod_self_left]
  rcases h5 with rfl | rfl
  · rw [Int.mul_zero, Int.add_zero]; exact Int.emod_eq_of_lt h3 (by omega)
  · rw [Int.mul_one]; exact Int.emod_eq_of_lt (by omega) (by omega)
theorem tags_mem {s c : Int} {k : Nat} (h : c ∈ tagsTo s k) : 97 ≤ c ∧ c < 97 + k := by
  induction k with
  | zero => simp [tagsTo] at h
  | succ k ih =>
    rw [tagsTo_succ, List.mem_append] at h
    rcases h with h | h
    · have := ih h; omega
    · unfold tagAt at h
      split at h
      · simp only [List.mem_cons, List.not_mem_nil, or_false] at h; omega
      · simp at h
theorem tagSum_app (f g : List Int) : ∀ k, k ≤ f.length → tagSum (f ++ g) k = tagSum f k
  | 0, _ => rfl
  | k + 1, hk => by
    show tagSum (f ++ g) k + tagBit _ = tagSum f k + tagBit _
    rw [tagSum_app f g k (by omega), getD_app (by omega)]
theorem allI_app (f g : List Int) : ∀ k, k ≤ f.length → allI k (tagStep (f ++ g)) = allI k (tagStep f)
  | 0, _ => rfl
  | k + 1, hk => by
    rw [allI_succ, allI_succ, allI_app f g k (by omega)]
    congr 1
    unfold tagStep
    rw [getD_app (by omega)]
    cases k with
    | zero => simp
    | succ k => rw [show k + 1 - 1 = k from rfl, getD_app (by omega)]
theorem tags_step {s : Int} {k : Nat} (hk : k ≤ 16) : allI (tagsTo s k).length (tagStep (tagsTo s k)) = true ∧ tagSum (tagsTo s k) (tagsTo s k).length = s % 2 ^ k := by
  induction k with
  | zero => exact ⟨rfl, by show (0 : Int) = _; rw [Int.pow_zero, Int.emod_one]⟩
  | succ k ih =>
    obtain ⟨i1, i2⟩ := ih (by omega)
    have hm : s % 2 ^ (k + 1) = s % 2 ^ k + 2 ^ k * (s / 2 ^ k % 2) := by
      rw [Int.pow_succ, mod_twice _ _ (Int.pow_pos (by decide))]
    rw [tagsTo_succ]
    unfold tagAt
    split
    · rename_i hb
      rw [hb] at hm
      rw [List.length_append, List.length_singleton, allI_succ, allI_app _ _ _ (Nat.le_refl _), i1, Bool.true_and]
      have hg : (tagsTo s k ++ [((97 + k : Nat) : Int)]).getD (tagsTo s k).length 0 = ((97 + k : Nat) : Int) := by
        exact getD_last _ _
      refine ⟨?_, ?_⟩
      · unfold tagStep inB
        rw [hg]
        have hl : (tagsTo s k).length = 0 ∨ (tagsTo s k ++ [((97 + k : Nat) : Int)]).getD ((tagsTo s k).length - 1) 0 < ((97 + k : Nat) : Int) := by
          rcases Nat.eq_zero_or_pos (tagsTo s k).length with h | h
          · exact Or.inl h
          · right
            rw [getD_app (by omega), List.getD_eq_getElem?_getD, List.getElem?_eq_getElem (by omega)]
            have := tags_mem (List.getElem_mem (l := tagsTo s k) (n := (tagsTo s k).length - 1) (by omega))
            show (tagsTo s k)[(tagsTo s k).length - 1] < _
            omega
        simp only [Bool.and_eq_true, Bool.or_eq_true, decide_eq_true_eq]
        exact ⟨⟨by omega, by omega⟩, hl⟩
      · show tagSum _ (tagsTo s k).length + tagBit _ = _
        rw [tagSum_app _ _ _ (Nat.le_refl _), i2, hg, hm, tagBit_pow (by omega), Int.mul_one]
        congr 2
        omega
    · rename_i hb
      have h0 : s / 2 ^ k % 2 = 0 := by omega
      rw [h0, Int.mul_zero, Int.add_zero] at hm
      rw [List.append_nil, hm]
      exact ⟨i1, i2⟩
theorem tagT_ok {s : Int} (h : 0 ≤ s ∧ s ≤ 65535) : tagOk (tagT s) = true ∧ tagSum (tagT s) (tagT s).length = s := by
  obtain ⟨h1, h2⟩ := tags_step (s := s) (k := 16) (Nat.le_refl _)
  rw [Int.emod_eq_of_lt h.1 (by omega)] at h2
  unfold tagT
  split
  · rename_i hz
    rw [hz] at h2
    exact ⟨by decide, by rw [← h2]; rfl⟩
  · rename_i hz
    refine ⟨?_, h2⟩
    unfold tagOk
    rw [h1, decide_eq_true (show 0 < (tagsTo s 16).length by omega), Bool.and_self, Bool.or_true]
theorem tagT_mem {s c : Int} (h : c ∈ tagT s) : c = 45 ∨ 97 ≤ c := by
  unfold tagT at h
  split at h
  · simp at h; exact Or.inl h
  · exact Or.inr (tags_mem h).1
end Go.Proofs.YtbccaabaplbmhaaGreatDoor.L1
namespace Go.Proofs.YtbccaabaplbmhaaGreatDoor.L1
open Go.RowKit Go.Proofs.YtbccaabaplbmhaaGreatDoorW.PrintWords Go.Proofs.YtbccaabaplbmhaaGreatDoor.B
set_option linter.unusedVariables false
set_option linter.unusedSimpArgs false
theorem pieces_snoc {sep : Int} {a b : List Int} (h : sep ∉ b) : pieces sep ((a ++ [sep]) ++ b) = pieces sep a ++ [b] := by
  rw [pieces_fold, pieces_fold, List.foldl_append, List.foldl_append, fold_none h]
  simp [stepP]
theorem join_pieces {fs : List (List Int)} (h : ∀ f, f ∈ fs → (32 : Int) ∉ f) : ∀ k, k < fs.length → pieces 32 (joinTo fs (k + 1)) = fs.take (k + 1)
  | 0, hk => by
    have hg : fs.getD 0 [] = fs[0] := by rw [List.getD_eq_getElem?_getD, List.getElem?_eq_getElem hk]; rfl
    show pieces 32 (([] ++ if (0 : Nat) = 0 then [] else [32]) ++ fs.getD 0 []) = _
    rw [if_pos rfl, List.append_nil, List.nil_append, hg, pieces_none (h _ (List.getElem_mem hk)), List.take_add_one, List.getElem?_eq_getElem hk]
    rfl
  | k + 1, hk => by
    have hg : fs.getD (k + 1) [] = fs[k + 1] := by rw [List.getD_eq_getElem?_getD, List.getElem?_eq_getElem hk]; rfl
    show pieces 32 ((joinTo fs (k + 1) ++ if k + 1 = 0 then [] else [32]) ++ fs.getD (k + 1) []) = _
    rw [if_neg (by omega), hg, pieces_snoc (h _ (List.getElem_mem hk)), join_pieces h k (by omega), List.take_add_one (i := k + 1), List.getElem?_eq_getElem hk]
    rfl
theorem join_mem {fs : List (List Int)} {c : Int} : ∀ k, k ≤ fs.length → c ∈ joinTo fs k → c = 32 ∨ ∃ f, f ∈ fs ∧ c ∈ f
  | 0, _, h => by simp [joinTo] at h
  | k + 1, hk, h => by
    have hg : fs.getD k [] = fs[k] := by rw [List.getD_eq_getElem?_getD, List.getElem?_eq_getElem (by omega)]; rfl
    rcases List.mem_append.1 (show c ∈ (joinTo fs k ++ if k = 0 then [] else [32]) ++ fs.getD k [] from h) with h | h
    · rcases List.mem_append.1 h with h | h
      · exact join_mem k (by omega) h
      · split at h
        · simp at h
        · simp at h; exact Or.inl h
    · rw [hg] at h
      exact Or.inr ⟨_, List.getElem_mem _, h⟩
/-- Fields without blanks and ends of lines. -/
def Clean (fs : List (List Int)) : Prop := ∀ f, f ∈ fs → (32 : Int) ∉ f ∧ (10 : Int) ∉ f
theorem line_pieces {fs : List (List Int)} (h : Clean fs) (hn : fs ≠ []) : pieces 32 (joinTo fs fs.length) = fs := by
  obtain ⟨n, hl⟩ : ∃ n, fs.length = n + 1 := ⟨fs.length - 1, by have := List.length_pos_iff.2 hn; omega⟩
  have := join_pieces (fun f hf => (h f hf).1) n (by omega)
  rw [← hl, List.take_length] at this
  exact this
theorem line_ten {fs : List (List Int)} (h : Clean fs) : (10 : Int) ∉ joinTo fs fs.length := fun hm => by
  rcases join_mem _ (Nat.le_refl _) hm with h1 | ⟨f, hf, h2⟩
  · exact absurd h1 (by decide)
  · exact (h f hf).2 h2
theorem line_next {x y : Inst} {fs : List (List Int)} {i : Nat} (rest : List Int) (h : Clean fs) (hn : fs ≠ []) (hl : lineW x fs (kindOf (fs.getD 0 [])) = (0, y)) : parseFrom x i (pieces 10 (lineOf fs ++ rest)) = parseFrom y (i + 1) (pieces 10 rest) := by
  unfold lineOf
  rw [List.append_assoc, List.singleton_append, pieces_cons (line_ten h), parseFrom_cons (fun e => by have := pieces_pos 10 rest; rw [e] at this; simp at this)]
  unfold lineP
  rw [line_pieces h hn, hl]
  rfl
theorem dec_clean {n : Int} : (32 : Int) ∉ dec n ∧ (10 : Int) ∉ dec n :=
  ⟨fun h => by rcases dec_mem h with h | h; exact absurd h (by decide); unfold isDig at h; omega, fun h => by rcases dec_mem h with h | h; exact absurd h (by decide); unfold isDig at h; omega⟩
theorem tag_clean {n : Int} : (32 : Int) ∉ tagT n ∧ (10 : Int) ∉ tagT n :=
  ⟨fun h => by rcases tagT_mem h with h | h; exact absurd h (by decide); omega, fun h => by rcases tagT_mem h with h | h; exact absurd h (by decide); omega⟩
structure Place.Small (p : Place) : Prop where
  x : -1000000 ≤ p.x ∧ p.x ≤ 1000000
  y : -1000000 ≤ p.y ∧ p.y ≤ 1000000
  o : -1000000 ≤ p.o ∧ p.o ≤ 1000000
  c : -1000000 ≤ p.c ∧ p.c ≤ 1000000
  h : -1000000 ≤ p.h ∧ p.h ≤ 1000000
theorem Place.small_of {p : Place} (h : p.good = true) : p.Small := by
  simp only [Place.good, inB, Bool.and_eq_true, decide_eq_true_eq] at h
  exact ⟨by omega, by omega, by omega, by omega, by omega⟩
theorem veh_clean (v : Veh) : Clean v.flds := by
  intro f hf
  simp only [Veh.flds, Place.flds, List.cons_append, List.nil_append, List.mem_cons, List.not_mem_nil, or_false] at hf
  rcases hf with rfl | rfl | rfl | rfl | rfl | rfl | rfl | rfl
  · exact ⟨by decide, by decide⟩
  · exact dec_clean
  · exact tag_clean
  all_goals exact dec_clean
theorem req_clean (v : Req) : Clean v.flds := by
  intro f hf
  simp only [Req.flds, Place.flds, List.cons_append, List.nil_append, List.append_assoc, List.mem_cons, List.not_mem_nil, or_false] at hf
  rcases hf with rfl | rfl | rfl | rfl | rfl | rfl | rfl | rfl | rfl | rfl | rfl | rfl | rfl
  · exact ⟨by decide, by decide⟩
  · exact dec_clean
  · exact tag_clean
  all_goals exact dec_clean
theorem road_clean (v : Road) : Clean v.flds := by
  intro f hf
  simp only [Road.flds, List.mem_cons, List.not_mem_nil, or_false] at hf
  rcases hf with rfl | rfl | rfl | rfl
  · exact ⟨by decide, by decide⟩
  all_goals exact dec_clean
theorem veh_line {vs : List Veh} {v : Veh} (h : v.good = true) (hl : vs.length < 64) : lineW ⟨vs, [], []⟩ v.flds (kindOf (v.flds.getD 0 [])) = (0, ⟨vs ++ [v], [], []⟩) := by
  have hg := h
  simp only [Veh.good, inB, Bool.and_eq_true, decide_eq_true_eq] at h
  have hp := Place.small_of h.2
  have d0 := dec_small (n := v.room) (by omega)
  have t0 := tagT_ok (s := v.skills) (by omega)
  have d1 := dec_small hp.x; have d2 := dec_small hp.y; have d3 := dec_small hp.o; have d4 := dec_small hp.c; have d5 := dec_small hp.h
  have hk : kindOf (v.flds.getD 0 []) = 1 := by show kindOf wVehicle = 1; decide
  have hv : vehOf v.flds = v := by
    unfold vehOf placeOf
    show Veh.mk (numVal (dec v.room)) (tagSum (tagT v.skills) (tagT v.skills).length) ⟨numVal (dec v.home.x), numVal (dec v.home.y), numVal (dec v.home.o), numVal (dec v.home.c), numVal (dec v.home.h)⟩ = v
    rw [d0.2.1, t0.2, d1.2.1, d2.2.1, d3.2.1, d4.2.1, d5.2.1]
  rw [hk]
  unfold lineW
  rw [if_neg (by decide), if_neg (by simp), if_neg (show ¬ v.flds.length ≠ wantOf 1 by simp [Veh.flds, Place.flds, wantOf]), show v.flds.length = 8 from rfl, form1]
  rw [if_neg, if_pos rfl, hv]
  · unfold addVeh
    rw [if_neg (by rw [hg]; decide), if_neg (by show ¬ vs.length = 64; omega)]
  · show ¬ (isNum (dec v.room) && tagOk (tagT v.skills) && (five v.flds 3)) = false
    unfold five
    show ¬ (isNum (dec v.room) && tagOk (tagT v.skills) && (isNum (dec v.home.x) && isNum (dec v.home.y) && isNum (dec v.home.o) && isNum (dec v.home.c) && isNum (dec v.home.h))) = false
    rw [d0.1, t0.1, d1.1, d2.1, d3.1, d4.1, d5.1]
    decide
theorem req_line {vs : List Veh} {qs : List Req} {v : Req} (h : v.good = true) (hl : qs.length < 1000) : lineW ⟨vs, qs, []⟩ v.flds (kindOf (v.flds.getD 0 [])) = (0, ⟨vs, qs ++ [v], []⟩) := by
  have hg := h
  simp only [Req.good, inB, Bool.and_eq_true, decide_eq_true_eq] at h
  have hp := Place.small_of h.1.2
  have hq := Place.small_of h.2
  have d0 := dec_small (n := v.size) (by omega)
  have t0 := tagT_ok (s := v.tags) (by omega)
  have d1 := dec_small hp.x; have d2 := dec_small hp.y; have d3 := dec_small hp.o; have d4 := dec_small hp.c; have d5 := dec_small hp.h
  have e1 := dec_small hq.x; have e2 := dec_small hq.y; have e3 := dec_small hq.o; have e4 := dec_small hq.c; have e5 := dec_small hq.h
  have hk : kindOf (v.flds.getD 0 []) = 2 := by show kindOf wRequest = 2; decide
  have hv : reqOf v.flds = v := by
    unfold reqOf placeOf
    show Req.mk (numVal (dec v.size)) (tagSum (tagT v.tags) (tagT v.tags).length) ⟨numVal (dec v.from_.x), numVal (dec v.from_.y), numVal (dec v.from_.o), numVal (dec v.from_.c), numVal (dec v.from_.h)⟩ ⟨numVal (dec v.to_.x), numVal (dec v.to_.y), numVal (dec v.to_.o), numVal (dec v.to_.c), numVal (dec v.to_.h)⟩ = v
    rw [d0.2.1, t0.2, d1.2.1, d2.2.1, d3.2.1, d4.2.1, d5.2.1, e1.2.1, e2.2.1, e3.2.1, e4.2.1, e5.2.1]
  rw [hk]
  unfold lineW
  rw [if_neg (by decide), if_neg (by simp), if_neg (show ¬ v.flds.length ≠ wantOf 2 by simp [Req.flds, Place.flds, wantOf]), show v.flds.length = 13 from rfl, form2]
  rw [if_neg, if_neg (by decide), if_pos rfl, hv]
  · unfold addReq
    rw [if_neg (by rw [hg]; decide), if_neg (by show ¬ qs.length = 1000; omega)]
  · show ¬ (isNum (dec v.size) && tagOk (tagT v.tags) && (isNum (dec v.from_.x) && isNum (dec v.from_.y) && isNum (dec v.from_.o) && isNum (dec v.from_.c) && isNum (dec v.from_.h)) && (isNum (dec v.to_.x) && isNum (dec v.to_.y) && isNum (dec v.to_.o) && isNum (dec v.to_.c) && isNum (dec v.to_.h))) = false
    rw [d0.1, t0.1, d1.1, d2.1, d3.1, d4.1, d5.1, e1.1, e2.1, e3.1, e4.1, e5.1]
    decide
theorem road_line {vs : List Veh} {qs : List Req} {rs : List Road} {v : Road} (hn : (vs.length : Int) + 2 * qs.length ≤ 100000) (h : v.good ((vs.length : Int) + 2 * qs.length) = true) (hl : rs.length < 4000) (ho : 0 < rs.length → (rs.getD (rs.length - 1) zR).lt v = true) : lineW ⟨vs, qs, rs⟩ v.flds (kindOf (v.flds.getD 0 [])) = (0, ⟨vs, qs, rs ++ [v]⟩) := by
  have hg := h
  simp only [Road.good, inB, Bool.and_eq_true, decide_eq_true_eq] at h
  have d0 := dec_small (n := v.a) (by omega)
  have d1 := dec_small (n := v.b) (by omega)
  have d2 := dec_small (n := v.t) (by omega)
  have hk : kindOf (v.flds.getD 0 []) = 3 := by show kindOf wRoad = 3; decide
  have hv : roadOf v.flds = v := by
    unfold roadOf
    show Road.mk (numVal (dec v.a)) (numVal (dec v.b)) (numVal (dec v.t)) = v
    rw [d0.2.1, d1.2.1, d2.2.1]
  rw [hk]
  unfold lineW
  rw [if_neg (by decide), if_neg (by simp), if_neg (show ¬ v.flds.length ≠ wantOf 3 by simp [Road.flds, wantOf]), show v.flds.length = 4 from rfl, form3]
  rw [if_neg, if_neg (by decide), if_neg (by decide), hv]
  · unfold addRoad
    rw [if_neg (by rw [show (Inst.mk vs qs rs).nodes = (vs.length : Int) + 2 * qs.length from rfl, hg]; decide), if_neg (fun hh => by rw [ho hh.1] at hh; exact absurd hh.2 (by decide)), if_neg (by show ¬ rs.length = 4000; omega)]
  · show ¬ (isNum (dec v.a) && isNum (dec v.b) && isNum (dec v.t)) = false
    rw [d0.1, d1.1, d2.1]
    decide
theorem lines_cons {α : Type} (f : α → List (List Int)) (a : α) (l : List α) (rest : List Int) : lines f (a :: l) ++ rest = lineOf (f a) ++ (lines f l ++ rest) := by
  rw [show lines f (a :: l) = lineOf (f a) ++ lines f l from rfl, List.append_assoc]
theorem parse_vehs : ∀ (l done : List Veh) (i : Nat) (rest : List Int), (∀ v, v ∈ l → v.good = true) → done.length + l.length ≤ 64 → parseFrom ⟨done, [], []⟩ i (pieces 10 (lines Veh.flds l ++ rest)) = parseFrom ⟨done ++ l, [], []⟩ (i + l.length) (pieces 10 rest)
  | [], done, i, rest, _, _ => by rw [List.append_nil]; rfl
  | v :: l, done, i, rest, hg, hl => by
    rw [List.length_cons] at hl
    rw [lines_cons, line_next _ (veh_clean v) (by simp [Veh.flds]) (veh_line (hg v List.mem_cons_self) (by omega)), parse_vehs l (done ++ [v]) (i + 1) rest (fun u hu => hg u (List.mem_cons_of_mem _ hu)) (by rw [List.length_append, List.length_singleton]; omega), List.append_assoc, List.singleton_append, List.length_cons]
    congr 1; omega
theorem parse_reqs (vs : List Veh) : ∀ (l done : List Req) (i : Nat) (rest : List Int), (∀ v, v ∈ l → v.good = true) → done.length + l.length ≤ 1000 → parseFrom ⟨vs, done, []⟩ i (pieces 10 (lines Req.flds l ++ rest)) = parseFrom ⟨vs, done ++ l, []⟩ (i + l.length) (pieces 10 rest)
  | [], done, i, rest, _, _ => by rw [List.append_nil]; rfl
  | v :: l, done, i, rest, hg, hl => by
    rw [List.length_cons] at hl
    rw [lines_cons, line_next _ (req_clean v) (by simp [Req.flds]) (req_line (hg v List.mem_cons_self) (by omega)), parse_reqs vs l (done ++ [v]) (i + 1) rest (fun u hu => hg u (List.mem_cons_of_mem _ hu)) (by rw [List.length_append, List.length_singleton]; omega), List.append_assoc, List.singleton_append, List.length_cons]
    congr 1; omega
theorem road_at_app (done : List Road) (v : Road) (l : List Road) : (done ++ v :: l).getD done.length zR = v := by
  rw [List.getD_eq_getElem?_getD, List.getElem?_append_right (Nat.le_refl _), Nat.sub_self]; rfl
theorem parse_roads (vs : List Veh) (qs : List Req) (hn : (vs.length : Int) + 2 * qs.length ≤ 100000) : ∀ (l done : List Road) (i : Nat) (rest : List Int), (∀ k, k < (done ++ l).length → roadAt ((vs.length : Int) + 2 * qs.length) (done ++ l) k = true) → done.length + l.length ≤ 4000 → parseFrom ⟨vs, qs, done⟩ i (pieces 10 (lines Road.flds l ++ rest)) = parseFrom ⟨vs, qs, done ++ l⟩ (i + l.length) (pieces 10 rest)
  | [], done, i, rest, _, _ => by rw [List.append_nil]; rfl
  | v :: l, done, i, rest, hg, hl => by
    rw [List.length_cons] at hl
    have hk := hg done.length (by rw [List.length_append, List.length_cons]; omega)
    unfold roadAt at hk
    rw [road_at_app] at hk
    simp only [Bool.and_eq_true, Bool.or_eq_true, decide_eq_true_eq] at hk
    have ho : 0 < done.length → (done.getD (done.length - 1) zR).lt v = true := fun h => by
      rcases hk.2 with h2 | h2
      · omega
      · rwa [List.getD_eq_getElem?_getD, List.getElem?_append_left (by omega), ← List.getD_eq_getElem?_getD] at h2
    have e : done ++ v :: l = (done ++ [v]) ++ l := by rw [List.append_assoc, List.singleton_append]
    rw [lines_cons, line_next _ (road_clean v) (by simp [Road.flds]) (road_line hn hk.1 (by omega) ho), parse_roads vs qs hn l (done ++ [v]) (i + 1) rest (fun k hk => by rw [← e] at hk ⊢; exact hg k hk) (by rw [List.length_append, List.length_singleton]; omega), e, List.length_cons]
    congr 1; omega
theorem wds_sum (fs : List (List Int)) : (wds fs).length = (fs.map fun f => f.length + 1).sum := by
  induction fs with
  | nil => rfl
  | cons a t ih => rw [show a :: t = [a] ++ t from rfl, wds_append, wds_one, List.length_append, ih]; simp
theorem lines_le {α : Type} (f : α → List (List Int)) (c : Nat) (l : List α) (h : ∀ a, a ∈ l → (lineOf (f a)).length ≤ c) : (lines f l).length ≤ c * l.length := by
  induction l with
  | nil => simp [lines]
  | cons a t ih =>
    have h1 := ih fun f hf => h f (List.mem_cons_of_mem _ hf)
    have h2 := h a List.mem_cons_self
    rw [show lines f (a :: t) = lineOf (f a) ++ lines f t from rfl, List.length_append, List.length_cons, Nat.mul_succ]
    omega
theorem veh_len {v : Veh} (h : v.good = true) : (lineOf v.flds).length ≤ 80 := by
  simp only [Veh.good, inB, Bool.and_eq_true, decide_eq_true_eq] at h
  have hp := Place.small_of h.2
  have d0 := (dec_small (n := v.room) (by omega)).2.2
  have t0 := tagT_len v.skills
  have d1 := (dec_small hp.x).2.2; have d2 := (dec_small hp.y).2.2; have d3 := (dec_small hp.o).2.2; have d4 := (dec_small hp.c).2.2; have d5 := (dec_small hp.h).2.2
  rw [line_len (by simp [Veh.flds]), wds_sum]
  simp only [Veh.flds, Place.flds, List.cons_append, List.nil_append, List.map_cons, List.map_nil, List.sum_cons, List.sum_nil]
  have : wVehicle.length = 7 := rfl
  omega
theorem req_len {v : Req} (h : v.good = true) : (lineOf v.flds).length ≤ 124 := by
  simp only [Req.good, inB, Bool.and_eq_true, decide_eq_true_eq] at h
  have hp := Place.small_of h.1.2
  have hq := Place.small_of h.2
  have d0 := (dec_small (n := v.size) (by omega)).2.2
  have t0 := tagT_len v.tags
  have d1 := (dec_small hp.x).2.2; have d2 := (dec_small hp.y).2.2; have d3 := (dec_small hp.o).2.2; have d4 := (dec_small hp.c).2.2; have d5 := (dec_small hp.h).2.2
  have e1 := (dec_small hq.x).2.2; have e2 := (dec_small hq.y).2.2; have e3 := (dec_small hq.o).2.2; have e4 := (dec_small hq.c).2.2; have e5 := (dec_small hq.h).2.2
  rw [line_len (by simp [Req.flds]), wds_sum]
  simp only [Req.flds, Place.flds, List.cons_append, List.nil_append, List.append_assoc, List.map_cons, List.map_nil, List.sum_cons, List.sum_nil]
  have : wRequest.length = 7 := rfl
  omega
theorem road_len {v : Road} {n : Int} (hn : n ≤ 100000) (h : v.good n = true) : (lineOf v.flds).length ≤ 32 := by
  simp only [Road.good, inB, Bool.and_eq_true, decide_eq_true_eq] at h
  have d0 := (dec_small (n := v.a) (by omega)).2.2
  have d1 := (dec_small (n := v.b) (by omega)).2.2
  have d2 := (dec_small (n := v.t) (by omega)).2.2
  rw [line_len (by simp [Road.flds]), wds_sum]
  simp only [Road.flds, List.map_cons, List.map_nil, List.sum_cons, List.sum_nil]
  have : wRoad.length = 4 := rfl
  omega
theorem getD_of_mem {α : Type} {l : List α} {a z : α} (h : a ∈ l) : ∃ k, k < l.length ∧ l.getD k z = a := by
  obtain ⟨k, hk, e⟩ := List.getElem_of_mem h
  exact ⟨k, hk, by rw [List.getD_eq_getElem?_getD, List.getElem?_eq_getElem hk]; exact e⟩
/-- What is printed of a valid instance is read as that instance. -/
theorem parse_print {x : Inst} (h : x.valid = true) : parseP x.print = ⟨0, 0, x⟩ ∧ x.print.length ≤ 300000 := by
  have hp : x.print = (lines Veh.flds x.vs ++ lines Req.flds x.qs) ++ lines Road.flds x.rs := by unfold Inst.print; rw [if_pos h]; rfl
  simp only [Inst.valid, Inst.few, Bool.and_eq_true, decide_eq_true_eq, allI_iff] at h
  obtain ⟨⟨⟨⟨⟨n0, n1⟩, n2⟩, hv⟩, hq⟩, hr⟩ := h
  have hn : (x.vs.length : Int) + 2 * x.qs.length ≤ 100000 := by omega
  have gv : ∀ v, v ∈ x.vs → v.good = true := fun v hm => by obtain ⟨k, hk, e⟩ := getD_of_mem (z := zV) hm; rw [← e]; exact hv k hk
  have gq : ∀ v, v ∈ x.qs → v.good = true := fun v hm => by obtain ⟨k, hk, e⟩ := getD_of_mem (z := zQ) hm; rw [← e]; exact hq k hk
  have gr : ∀ v, v ∈ x.rs → v.good ((x.vs.length : Int) + 2 * x.qs.length) = true := fun v hm => by
    obtain ⟨k, hk, e⟩ := getD_of_mem (z := zR) hm
    have := hr k hk
    unfold roadAt at this
    rw [e, Bool.and_eq_true] at this
    exact this.1
  have l0 := lines_le Veh.flds 80 x.vs fun v hm => veh_len (gv v hm)
  have l1 := lines_le Req.flds 124 x.qs fun v hm => req_len (gq v hm)
  have l2 := lines_le Road.flds 32 x.rs fun v hm => road_len hn (gr v hm)
  have hlen : x.print.length ≤ 300000 := by rw [hp, List.length_append, List.length_append]; omega
  refine ⟨?_, hlen⟩
  unfold parseP
  rw [if_neg (by omega), hp, List.append_assoc, show noInst = ⟨[], [], []⟩ from rfl, parse_vehs x.vs [] 0 _ gv (by simpa using n0), List.nil_append, parse_reqs x.vs x.qs [] _ _ gq (by simpa using n1), List.nil_append]
  have := parse_roads x.vs x.qs hn x.rs [] (0 + x.vs.length + x.qs.length) [] (by simpa [Inst.nodes] using hr) (by simpa using n2)
  rw [List.append_nil] at this
  rw [this]
  rfl
end Go.Proofs.YtbccaabaplbmhaaGreatDoor.L1
