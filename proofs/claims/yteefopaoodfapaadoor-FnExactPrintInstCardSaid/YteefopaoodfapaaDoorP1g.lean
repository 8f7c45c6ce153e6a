/- PrintInst of the program. -/
import Derived.Test.YteefopaoodfapaaDoorP1f
namespace Go.Proofs.YteefopaoodfapaaDoor.L1
open Go.RowKit Go.Proofs.YteefopaoodfapaaDoorW.PrintWords Go.Proofs.YteefopaoodfapaaDoor.B
set_option linter.unusedVariables false
set_option linter.unusedSimpArgs false
attribute [local go_sem] mk_cell mk_frozen
theorem Tab.on {w w1 : World} (h : Tab w) (hb : Below w.heap.size w w1) : Tab w1 := fun w' hb' => h w' (bel_call hb hb')
theorem end_form (us : List Int) {fs : List (List Int)} (h : fs ≠ []) : ∃ l, us ++ wds fs = l ++ [32] ∧ us ++ lineOf fs = l ++ [10] := by
  obtain ⟨l, h1, h2⟩ := wds_line h
  exact ⟨us ++ l, by rw [h1, List.append_assoc], by rw [h2, List.append_assoc]⟩
theorem tag32 (s : Int) : (tagT s ++ [(32 : Int)]).length = (tagT s).length + 1 := by simp
theorem wds_chain (us a : List Int) (b c : List (List Int)) : ((us ++ (a ++ [32])) ++ wds b) ++ wds c = us ++ wds (([a] ++ b) ++ c) := by
  simp [wds]
section
variable (w : World)
set_option maxRecDepth 100000 in
set_option maxHeartbeats 8000000 in
theorem impl_PrintInst (v : Value) (x : Inst) (hr : ReadInst w v x) (ht : Tab w) : Calls Tryd.prog 7 #[v] w fun e w' => ∃ u, e = .returned u ∧ kByte.R 5 w' w.heap.size (fun _ => True) u x.print ∧ Below w.heap.size w w' := by
  have HX := Aside0.mk hr; have HT := Aside0.mk ht; clear ht
  obtain ⟨A0, c0, A1, c1, A2, c2, rfl, r0, r1, r2⟩ := hr
  have m0 := r0.2.1; have m1 := r1.2.1; have m2 := r2.2.1
  have HRA := Aside0.mk (And.intro r0 (And.intro r1 r2)); clear r0 r1 r2
  have HB0 := Aside0.mk (below_alloc (Below.refl w.heap.size w) (.cells #[.slice A0 x.vs.length c0, .slice A1 x.qs.length c1, .slice A2 x.rs.length c2] 34))
  have HC0 := Aside0.mk (al_new w (.cells #[.slice A0 x.vs.length c0, .slice A1 x.qs.length c1, .slice A2 x.rs.length c2] 34))
  go_enter Tryd.func7, Tryd.ntmps7
  go_wp2_with fail
  go_at_call 21
  refine (impl_validInst _ _ x (HX.out.below HB0.out)).mono ?_
  rintro e w1 ⟨rfl, hb⟩
  have HB1 := Aside0.mk (bel_call HB0.out hb); have HC1 := Aside0.mk (blk_below HC0.out hb); clear hb HB0 HC0
  cases hv : x.valid with
  | false =>
    have HV := Aside0.mk (show x.print = [] by unfold Inst.print; rw [hv]; rfl); clear hv
    go_wp2
    go_ret
    exact ⟨_, rfl, by rw [HV.out]; exact Kd.R_nil _ _ _ _ _, HB1.out⟩
  | true =>
  have HF := Aside0.mk (Inst.fit_of hv)
  have HV := Aside0.mk (show x.print = x.text by unfold Inst.print; rw [hv]; rfl); clear hv
  have HR := Aside0.mk (show kVeh.C w1 A0 x.vs.length x.vs ∧ kReq.C w1 A1 x.qs.length x.qs ∧ kRoad.C w1 A2 x.rs.length x.rs from ⟨Kd.C_below HRA.out.1 HB1.out, Kd.C_below HRA.out.2.1 HB1.out, Kd.C_below HRA.out.2.2 HB1.out⟩); clear HRA
  have HT1 := Aside0.mk (HT.out.on HB1.out)
  have HN := Aside0.mk (And.intro HF.out.nv (And.intro HF.out.nq HF.out.nr))
  have HPX := Aside0.mk (show Pr w1 w1.heap.size [] (w1.alloc (.cells #[.slice none 0 0] 49)) from ⟨⟨_, al_new _ _, Kd.R_nil _ _ _ _ _⟩, below_alloc (Below.refl _ _) _, Nat.le_refl _⟩)
  generalize hg : w1.heap.size = g at HPX
  have HG := Aside0.mk hg
  obtain ⟨b1, b2⟩ := lay (Below.refl _ _) (blk_box HC1.out (.cells #[.slice none 0 0] 49))
  go_wp2_with fail
  clear b1 b2
  go_loopg [16] (x.vs.length + 1) (fun q v16 wr => ∃ j : Nat, q = x.vs.length + 1 - j ∧ j ≤ x.vs.length ∧ v16 = .int .i64 j ∧ Aside0 (Pr w1 g (lines Veh.flds (x.vs.take j)) wr))
  case atStart => exact ⟨0, by omega, by omega, rfl, ⟨by rw [List.take_zero]; exact HPX.out⟩⟩
  case round =>
    obtain ⟨j, rfl, hj, rfl, HPj⟩ := hrel
    clear HPX
    by_cases hlt : j < x.vs.length
    · obtain ⟨ad, e0, t0, t1⟩ := Kd.flat_cells (d := kVeh) rfl (Kd.C_below HR.out.1 HPj.out.low) zV j hlt
      have HU := Aside0.mk (show (lines Veh.flds (x.vs.take (j + 1))) = (lines Veh.flds (x.vs.take j)) ++ lineOf (Veh.flds (x.vs.getD j zV)) by rw [lines_succ Veh.flds x.vs zV j hlt])
      have HY := Aside0.mk (fit_at HF.out.vs zV hlt)
      have HLL := Aside0.mk (show (lines Veh.flds (x.vs.take j)).length ≤ 4000000 by have h1 := lines_take_len Veh.flds x.vs (fun a ha => Veh.line_len (HF.out.vs a ha)) j; have h3 := HN.out; skip; omega)
      generalize (lines Veh.flds (x.vs.take j)) = us at HPj HU HLL
      generalize hy : x.vs.getD j zV = y at t0 t1 HU HY
      have y0 := t0 _ rfl; have y1 := t1 0 _ rfl; have y2 := t1 1 _ rfl; have y3 := t1 2 _ rfl; have y4 := t1 3 _ rfl; have y5 := t1 4 _ rfl; have y6 := t1 5 _ rfl
      clear t0 t1 hy; cases e0
      have HQW := Aside0.mk (wds_len (Veh.flds_len HY.out))
      have HVa := Aside0.mk (al_new wr (.cells #[.int .i64 y.room, .int .i64 y.skills, .int .i64 y.home.x, .int .i64 y.home.y, .int .i64 y.home.o, .int .i64 y.home.c, .int .i64 y.home.h] 53))
      have HPa := Aside0.mk (HPj.out.below (below_alloc (Below.refl _ _) (.cells #[.int .i64 y.room, .int .i64 y.skills, .int .i64 y.home.x, .int .i64 y.home.y, .int .i64 y.home.o, .int .i64 y.home.c, .int .i64 y.home.h] 53)))
      have hgv : wr.heap.size ≠ g := by have := HPj.out.lt; omega
      go_wp2_with fail
      clear y0 y1 y2 y3 y4 y5 y6
      have HW0 := Aside0.mk (show ofU (⟨#[118, 101, 104, 105, 99, 108, 101]⟩ : ByteArray).data.toList = wVehicle from rfl)
      go_at_call 22
      refine (impl_word _ w1 g us ⟨#[118, 101, 104, 105, 99, 108, 101]⟩ HPa.out (by have h1 := HLL.out; show us.length + 7 ≤ _; omega)).mono ?_
      rintro e wb ⟨rfl, hp, hf⟩
      have HPb := Aside0.mk hp; have HVb := Aside0.mk (Fra.at hf hgv HVa.out (by decide)); clear hp hf
      rw [HW0.out] at HPb
      have HSb := Aside0.mk (show (us ++ (wVehicle ++ [32])).length ≤ 4000020 by simp only [List.length_append, List.length_cons, List.length_nil]; have h1 := HLL.out; show us.length + (7 + 1) ≤ _; omega)
      obtain ⟨v1, v2⟩ := lay (Below.refl _ _) HVb.out
      go_wp2_with fail
      clear v1 v2
      have HNb := Aside0.mk (al_new wb (.cells #[.int .i64 y.room] 2))
      have HVb' := Aside0.mk (blk_box HVb.out (.cells #[.int .i64 y.room] 2)); have HPb' := Aside0.mk (HPb.out.below (below_alloc (Below.refl _ _) (.cells #[.int .i64 y.room] 2)))
      have hnb : wb.heap.size ≠ g := by have := HPb.out.lt; omega
      clear HVb HPb
      have HVb := HVb'; have HPb := HPb'; clear HVb' HPb'
      go_at_call 23
      refine (impl_nums _ w1 HT1.out g wb.heap.size (us ++ (wVehicle ++ [32])) [y.room] HPb.out HNb.out hnb (by intro q hq; simp only [List.mem_cons, List.not_mem_nil, or_false] at hq; subst hq; exact HY.out.room) (by show (1 : Nat) ≤ 10; decide) (by have := HSb.out; omega)).mono ?_
      rintro e wc ⟨rfl, hp, hf⟩
      have HPc := Aside0.mk hp; have HVc := Aside0.mk (Fra.at hf hgv HVb.out (by decide)); clear hp hf
      have HWc := Aside0.mk (wds_nums_len (xs := [y.room]) (by intro q hq; simp only [List.mem_cons, List.not_mem_nil, or_false] at hq; subst hq; exact HY.out.room) 1 (by show (1 : Nat) ≤ 10; decide))
      rw [show [y.room].take 1 = [y.room] from rfl] at HWc
      have HSc := Aside0.mk (show ((us ++ (wVehicle ++ [32])) ++ wds ([y.room].map dec)).length ≤ 4000200 by rw [List.length_append]; have h1 := HSb.out; have h2 := HWc.out; omega)
      obtain ⟨v1, v2⟩ := lay (Below.refl _ _) HVc.out
      go_wp2_with fail
      clear v1 v2
      go_at_call 24
      refine (impl_tags _ w1 g ((us ++ (wVehicle ++ [32])) ++ wds ([y.room].map dec)) y.skills HY.out.skills HPc.out (by have := HSc.out; omega)).mono ?_
      rintro e wd ⟨rfl, hp, hf⟩
      have HPd := Aside0.mk hp; have HVd := Aside0.mk (Fra.at hf hgv HVc.out (by decide)); clear hp hf
      have HSd := Aside0.mk (show (((us ++ (wVehicle ++ [32])) ++ wds ([y.room].map dec)) ++ (tagT y.skills ++ [32])).length ≤ 4000300 by rw [List.length_append, tag32]; have h1 := HSc.out; have h2 := tagT_len y.skills; omega)
      obtain ⟨v1, v2⟩ := lay (Below.refl _ _) HVd.out
      go_wp2_with fail
      clear v1 v2
      go_at_call 25
      refine (impl_place _ w1 HT1.out g (((us ++ (wVehicle ++ [32])) ++ wds ([y.room].map dec)) ++ (tagT y.skills ++ [32])) y.home HPd.out HY.out.home (by have := HSd.out; omega)).mono ?_
      rintro e we ⟨rfl, hp, hf⟩
      have HPe := Aside0.mk hp; have HVe := Aside0.mk (Fra.at hf hgv HVd.out (by decide)); clear hp hf
      have HSe := Aside0.mk (show ((((us ++ (wVehicle ++ [32])) ++ wds ([y.room].map dec)) ++ (tagT y.skills ++ [32])) ++ wds y.home.flds).length ≤ 4000400 by rw [List.length_append]; have h1 := HSd.out; have h2 := wds_len (Place.flds_len HY.out.home); have h3 : y.home.flds.length = 5 := rfl; omega)
      have HEQ := Aside0.mk (show ((((us ++ (wVehicle ++ [32])) ++ wds ([y.room].map dec)) ++ (tagT y.skills ++ [32])) ++ wds y.home.flds) = us ++ wds y.flds by simp [wds, Veh.flds])
      obtain ⟨l, h32, h10⟩ := end_form us (fs := y.flds) (by simp [Veh.flds])
      rw [HEQ.out, h32] at HPe HSe
      go_wp2_with fail
      go_at_call 26
      refine (impl_end _ w1 g l HPe.out (by have h := HSe.out; rw [List.length_append] at h; omega)).mono ?_
      rintro e wz ⟨rfl, hp, hf⟩
      have HPz := Aside0.mk (show Pr w1 g (lines Veh.flds (x.vs.take (j + 1))) wz by rw [HU.out, h10]; exact hp); clear hp hf
      clear h32 h10
      go_wp2
      go_roundg (x.vs.length + 1 - (j + 1))
      case measure => omega
      case rel => exact ⟨j + 1, rfl, by omega, by go_num, HPz⟩
    · have hje : j = x.vs.length := by omega
      subst hje
      have HPX := HPj; clear HPj
      rw [List.take_length] at HPX
      have HDL := Aside0.mk (show (lines Veh.flds x.vs).length ≤ 400000 by have h1 := lines_take_len Veh.flds x.vs (fun a ha => Veh.line_len (HF.out.vs a ha)) x.vs.length; rw [List.take_length] at h1; have h3 := HN.out; skip; omega)
      obtain ⟨p1, p2⟩ := lay (Below.refl _ _) (blk_below HC1.out HPX.out.low)
      go_wp2_with fail
      clear p1 p2
      go_loopg [36] (x.qs.length + 1) (fun q v36 wr => ∃ j : Nat, q = x.qs.length + 1 - j ∧ j ≤ x.qs.length ∧ v36 = .int .i64 j ∧ Aside0 (Pr w1 g ((lines Veh.flds x.vs) ++ lines Req.flds (x.qs.take j)) wr))
      case atStart => exact ⟨0, by omega, by omega, rfl, ⟨by rw [List.take_zero]; rw [show lines Req.flds [] = [] from rfl, List.append_nil]; exact HPX.out⟩⟩
      case round =>
        obtain ⟨j, rfl, hj, rfl, HPj⟩ := hrel
        clear HPX
        by_cases hlt : j < x.qs.length
        · obtain ⟨ad, e0, t0, t1⟩ := Kd.flat_cells (d := kReq) rfl (Kd.C_below HR.out.2.1 HPj.out.low) zQ j hlt
          have HU := Aside0.mk (show ((lines Veh.flds x.vs) ++ lines Req.flds (x.qs.take (j + 1))) = ((lines Veh.flds x.vs) ++ lines Req.flds (x.qs.take j)) ++ lineOf (Req.flds (x.qs.getD j zQ)) by rw [lines_succ Req.flds x.qs zQ j hlt]; simp only [List.append_assoc])
          have HY := Aside0.mk (fit_at HF.out.qs zQ hlt)
          have HLL := Aside0.mk (show ((lines Veh.flds x.vs) ++ lines Req.flds (x.qs.take j)).length ≤ 4000000 by have h1 := lines_take_len Req.flds x.qs (fun a ha => Req.line_len (HF.out.qs a ha)) j; have h3 := HN.out; rw [List.length_append]; have h4 := HDL.out; omega)
          generalize ((lines Veh.flds x.vs) ++ lines Req.flds (x.qs.take j)) = us at HPj HU HLL
          generalize hy : x.qs.getD j zQ = y at t0 t1 HU HY
          have y0 := t0 _ rfl; have y1 := t1 0 _ rfl; have y2 := t1 1 _ rfl; have y3 := t1 2 _ rfl; have y4 := t1 3 _ rfl; have y5 := t1 4 _ rfl; have y6 := t1 5 _ rfl; have y7 := t1 6 _ rfl; have y8 := t1 7 _ rfl; have y9 := t1 8 _ rfl; have y10 := t1 9 _ rfl; have y11 := t1 10 _ rfl
          clear t0 t1 hy; cases e0
          have HQW := Aside0.mk (wds_len (Req.flds_len HY.out))
          have HVa := Aside0.mk (al_new wr (.cells #[.int .i64 y.size, .int .i64 y.tags, .int .i64 y.from_.x, .int .i64 y.from_.y, .int .i64 y.from_.o, .int .i64 y.from_.c, .int .i64 y.from_.h, .int .i64 y.to_.x, .int .i64 y.to_.y, .int .i64 y.to_.o, .int .i64 y.to_.c, .int .i64 y.to_.h] 59))
          have HPa := Aside0.mk (HPj.out.below (below_alloc (Below.refl _ _) (.cells #[.int .i64 y.size, .int .i64 y.tags, .int .i64 y.from_.x, .int .i64 y.from_.y, .int .i64 y.from_.o, .int .i64 y.from_.c, .int .i64 y.from_.h, .int .i64 y.to_.x, .int .i64 y.to_.y, .int .i64 y.to_.o, .int .i64 y.to_.c, .int .i64 y.to_.h] 59)))
          have hgv : wr.heap.size ≠ g := by have := HPj.out.lt; omega
          go_wp2_with fail
          clear y0 y1 y2 y3 y4 y5 y6 y7 y8 y9 y10 y11
          have HW0 := Aside0.mk (show ofU (⟨#[114, 101, 113, 117, 101, 115, 116]⟩ : ByteArray).data.toList = wRequest from rfl)
          go_at_call 22
          refine (impl_word _ w1 g us ⟨#[114, 101, 113, 117, 101, 115, 116]⟩ HPa.out (by have h1 := HLL.out; show us.length + 7 ≤ _; omega)).mono ?_
          rintro e wb ⟨rfl, hp, hf⟩
          have HPb := Aside0.mk hp; have HVb := Aside0.mk (Fra.at hf hgv HVa.out (by decide)); clear hp hf
          rw [HW0.out] at HPb
          have HSb := Aside0.mk (show (us ++ (wRequest ++ [32])).length ≤ 4000020 by simp only [List.length_append, List.length_cons, List.length_nil]; have h1 := HLL.out; show us.length + (7 + 1) ≤ _; omega)
          obtain ⟨v1, v2⟩ := lay (Below.refl _ _) HVb.out
          go_wp2_with fail
          clear v1 v2
          have HNb := Aside0.mk (al_new wb (.cells #[.int .i64 y.size] 2))
          have HVb' := Aside0.mk (blk_box HVb.out (.cells #[.int .i64 y.size] 2)); have HPb' := Aside0.mk (HPb.out.below (below_alloc (Below.refl _ _) (.cells #[.int .i64 y.size] 2)))
          have hnb : wb.heap.size ≠ g := by have := HPb.out.lt; omega
          clear HVb HPb
          have HVb := HVb'; have HPb := HPb'; clear HVb' HPb'
          go_at_call 23
          refine (impl_nums _ w1 HT1.out g wb.heap.size (us ++ (wRequest ++ [32])) [y.size] HPb.out HNb.out hnb (by intro q hq; simp only [List.mem_cons, List.not_mem_nil, or_false] at hq; subst hq; exact HY.out.size) (by show (1 : Nat) ≤ 10; decide) (by have := HSb.out; omega)).mono ?_
          rintro e wc ⟨rfl, hp, hf⟩
          have HPc := Aside0.mk hp; have HVc := Aside0.mk (Fra.at hf hgv HVb.out (by decide)); clear hp hf
          have HWc := Aside0.mk (wds_nums_len (xs := [y.size]) (by intro q hq; simp only [List.mem_cons, List.not_mem_nil, or_false] at hq; subst hq; exact HY.out.size) 1 (by show (1 : Nat) ≤ 10; decide))
          rw [show [y.size].take 1 = [y.size] from rfl] at HWc
          have HSc := Aside0.mk (show ((us ++ (wRequest ++ [32])) ++ wds ([y.size].map dec)).length ≤ 4000200 by rw [List.length_append]; have h1 := HSb.out; have h2 := HWc.out; omega)
          obtain ⟨v1, v2⟩ := lay (Below.refl _ _) HVc.out
          go_wp2_with fail
          clear v1 v2
          go_at_call 24
          refine (impl_tags _ w1 g ((us ++ (wRequest ++ [32])) ++ wds ([y.size].map dec)) y.tags HY.out.tags HPc.out (by have := HSc.out; omega)).mono ?_
          rintro e wd ⟨rfl, hp, hf⟩
          have HPd := Aside0.mk hp; have HVd := Aside0.mk (Fra.at hf hgv HVc.out (by decide)); clear hp hf
          have HSd := Aside0.mk (show (((us ++ (wRequest ++ [32])) ++ wds ([y.size].map dec)) ++ (tagT y.tags ++ [32])).length ≤ 4000300 by rw [List.length_append, tag32]; have h1 := HSc.out; have h2 := tagT_len y.tags; omega)
          obtain ⟨v1, v2⟩ := lay (Below.refl _ _) HVd.out
          go_wp2_with fail
          clear v1 v2
          go_at_call 25
          refine (impl_place _ w1 HT1.out g (((us ++ (wRequest ++ [32])) ++ wds ([y.size].map dec)) ++ (tagT y.tags ++ [32])) y.from_ HPd.out HY.out.from_ (by have := HSd.out; omega)).mono ?_
          rintro e we ⟨rfl, hp, hf⟩
          have HPe := Aside0.mk hp; have HVe := Aside0.mk (Fra.at hf hgv HVd.out (by decide)); clear hp hf
          have HSe := Aside0.mk (show ((((us ++ (wRequest ++ [32])) ++ wds ([y.size].map dec)) ++ (tagT y.tags ++ [32])) ++ wds y.from_.flds).length ≤ 4000400 by rw [List.length_append]; have h1 := HSd.out; have h2 := wds_len (Place.flds_len HY.out.from_); have h3 : y.from_.flds.length = 5 := rfl; omega)
          obtain ⟨v1, v2⟩ := lay (Below.refl _ _) HVe.out
          go_wp2_with fail
          clear v1 v2
          go_at_call 25
          refine (impl_place _ w1 HT1.out g ((((us ++ (wRequest ++ [32])) ++ wds ([y.size].map dec)) ++ (tagT y.tags ++ [32])) ++ wds y.from_.flds) y.to_ HPe.out HY.out.to_ (by have := HSe.out; omega)).mono ?_
          rintro e wf ⟨rfl, hp, hf⟩
          have HPf := Aside0.mk hp; have HVf := Aside0.mk (Fra.at hf hgv HVe.out (by decide)); clear hp hf
          have HSf := Aside0.mk (show (((((us ++ (wRequest ++ [32])) ++ wds ([y.size].map dec)) ++ (tagT y.tags ++ [32])) ++ wds y.from_.flds) ++ wds y.to_.flds).length ≤ 4000500 by rw [List.length_append]; have h1 := HSe.out; have h2 := wds_len (Place.flds_len HY.out.to_); have h3 : y.to_.flds.length = 5 := rfl; omega)
          have HEQ := Aside0.mk (show (((((us ++ (wRequest ++ [32])) ++ wds ([y.size].map dec)) ++ (tagT y.tags ++ [32])) ++ wds y.from_.flds) ++ wds y.to_.flds) = us ++ wds y.flds by simp [wds, Req.flds])
          obtain ⟨l, h32, h10⟩ := end_form us (fs := y.flds) (by simp [Req.flds])
          rw [HEQ.out, h32] at HPf HSf
          go_wp2_with fail
          go_at_call 26
          refine (impl_end _ w1 g l HPf.out (by have h := HSf.out; rw [List.length_append] at h; omega)).mono ?_
          rintro e wz ⟨rfl, hp, hf⟩
          have HPz := Aside0.mk (show Pr w1 g ((lines Veh.flds x.vs) ++ lines Req.flds (x.qs.take (j + 1))) wz by rw [HU.out, h10]; exact hp); clear hp hf
          clear h32 h10
          go_wp2
          go_roundg (x.qs.length + 1 - (j + 1))
          case measure => omega
          case rel => exact ⟨j + 1, rfl, by omega, by go_num, HPz⟩
        · have hje : j = x.qs.length := by omega
          subst hje
          have HPX := HPj; clear HPj
          rw [List.take_length] at HPX
          have HDL := Aside0.mk (show ((lines Veh.flds x.vs) ++ lines Req.flds x.qs).length ≤ 1600000 by have h1 := lines_take_len Req.flds x.qs (fun a ha => Req.line_len (HF.out.qs a ha)) x.qs.length; rw [List.take_length] at h1; have h3 := HN.out; rw [List.length_append]; have h4 := HDL.out; omega)
          obtain ⟨p1, p2⟩ := lay (Below.refl _ _) (blk_below HC1.out HPX.out.low)
          go_wp2_with fail
          clear p1 p2
          go_loopg [59] (x.rs.length + 1) (fun q v59 wr => ∃ j : Nat, q = x.rs.length + 1 - j ∧ j ≤ x.rs.length ∧ v59 = .int .i64 j ∧ Aside0 (Pr w1 g (((lines Veh.flds x.vs) ++ lines Req.flds x.qs) ++ lines Road.flds (x.rs.take j)) wr))
          case atStart => exact ⟨0, by omega, by omega, rfl, ⟨by rw [List.take_zero]; rw [show lines Road.flds [] = [] from rfl, List.append_nil]; exact HPX.out⟩⟩
          case round =>
            obtain ⟨j, rfl, hj, rfl, HPj⟩ := hrel
            clear HPX
            by_cases hlt : j < x.rs.length
            · obtain ⟨ad, e0, t0, t1⟩ := Kd.flat_cells (d := kRoad) rfl (Kd.C_below HR.out.2.2 HPj.out.low) zR j hlt
              have HU := Aside0.mk (show (((lines Veh.flds x.vs) ++ lines Req.flds x.qs) ++ lines Road.flds (x.rs.take (j + 1))) = (((lines Veh.flds x.vs) ++ lines Req.flds x.qs) ++ lines Road.flds (x.rs.take j)) ++ lineOf (Road.flds (x.rs.getD j zR)) by rw [lines_succ Road.flds x.rs zR j hlt]; simp only [List.append_assoc])
              have HY := Aside0.mk (fit_at HF.out.rs zR hlt)
              have HLL := Aside0.mk (show (((lines Veh.flds x.vs) ++ lines Req.flds x.qs) ++ lines Road.flds (x.rs.take j)).length ≤ 4000000 by have h1 := lines_take_len Road.flds x.rs (fun a ha => Road.line_len (HF.out.rs a ha)) j; have h3 := HN.out; rw [List.length_append]; have h4 := HDL.out; omega)
              generalize (((lines Veh.flds x.vs) ++ lines Req.flds x.qs) ++ lines Road.flds (x.rs.take j)) = us at HPj HU HLL
              generalize hy : x.rs.getD j zR = y at t0 t1 HU HY
              have y0 := t0 _ rfl; have y1 := t1 0 _ rfl; have y2 := t1 1 _ rfl
              clear t0 t1 hy; cases e0
              have HQW := Aside0.mk (wds_len (Road.flds_len HY.out))
              have HVa := Aside0.mk (al_new wr (.cells #[.int .i64 y.a, .int .i64 y.b, .int .i64 y.t] 61))
              have HPa := Aside0.mk (HPj.out.below (below_alloc (Below.refl _ _) (.cells #[.int .i64 y.a, .int .i64 y.b, .int .i64 y.t] 61)))
              have hgv : wr.heap.size ≠ g := by have := HPj.out.lt; omega
              go_wp2_with fail
              clear y0 y1 y2
              have HW0 := Aside0.mk (show ofU (⟨#[114, 111, 97, 100]⟩ : ByteArray).data.toList = wRoad from rfl)
              go_at_call 22
              refine (impl_word _ w1 g us ⟨#[114, 111, 97, 100]⟩ HPa.out (by have h1 := HLL.out; show us.length + 4 ≤ _; omega)).mono ?_
              rintro e wb ⟨rfl, hp, hf⟩
              have HPb := Aside0.mk hp; have HVb := Aside0.mk (Fra.at hf hgv HVa.out (by decide)); clear hp hf
              rw [HW0.out] at HPb
              have HSb := Aside0.mk (show (us ++ (wRoad ++ [32])).length ≤ 4000020 by simp only [List.length_append, List.length_cons, List.length_nil]; have h1 := HLL.out; show us.length + (4 + 1) ≤ _; omega)
              obtain ⟨v1, v2⟩ := lay (Below.refl _ _) HVb.out
              go_wp2_with fail
              clear v1 v2
              have HNb := Aside0.mk (al_new wb (.cells #[.int .i64 y.a, .int .i64 y.b, .int .i64 y.t] 2))
              have HVb' := Aside0.mk (blk_box HVb.out (.cells #[.int .i64 y.a, .int .i64 y.b, .int .i64 y.t] 2)); have HPb' := Aside0.mk (HPb.out.below (below_alloc (Below.refl _ _) (.cells #[.int .i64 y.a, .int .i64 y.b, .int .i64 y.t] 2)))
              have hnb : wb.heap.size ≠ g := by have := HPb.out.lt; omega
              clear HVb HPb
              have HVb := HVb'; have HPb := HPb'; clear HVb' HPb'
              go_at_call 23
              refine (impl_nums _ w1 HT1.out g wb.heap.size (us ++ (wRoad ++ [32])) [y.a, y.b, y.t] HPb.out HNb.out hnb (by intro q hq; simp only [List.mem_cons, List.not_mem_nil, or_false] at hq; rcases hq with rfl | rfl | rfl; exact HY.out.a; exact HY.out.b; exact HY.out.t) (by show (3 : Nat) ≤ 10; decide) (by have := HSb.out; omega)).mono ?_
              rintro e wc ⟨rfl, hp, hf⟩
              have HPc := Aside0.mk hp; have HVc := Aside0.mk (Fra.at hf hgv HVb.out (by decide)); clear hp hf
              have HWc := Aside0.mk (wds_nums_len (xs := [y.a, y.b, y.t]) (by intro q hq; simp only [List.mem_cons, List.not_mem_nil, or_false] at hq; rcases hq with rfl | rfl | rfl; exact HY.out.a; exact HY.out.b; exact HY.out.t) 3 (by show (3 : Nat) ≤ 10; decide))
              rw [show [y.a, y.b, y.t].take 3 = [y.a, y.b, y.t] from rfl] at HWc
              have HSc := Aside0.mk (show ((us ++ (wRoad ++ [32])) ++ wds ([y.a, y.b, y.t].map dec)).length ≤ 4000200 by rw [List.length_append]; have h1 := HSb.out; have h2 := HWc.out; omega)
              have HEQ := Aside0.mk (show ((us ++ (wRoad ++ [32])) ++ wds ([y.a, y.b, y.t].map dec)) = us ++ wds y.flds by simp [wds, Road.flds])
              obtain ⟨l, h32, h10⟩ := end_form us (fs := y.flds) (by simp [Road.flds])
              rw [HEQ.out, h32] at HPc HSc
              go_wp2_with fail
              go_at_call 26
              refine (impl_end _ w1 g l HPc.out (by have h := HSc.out; rw [List.length_append] at h; omega)).mono ?_
              rintro e wz ⟨rfl, hp, hf⟩
              have HPz := Aside0.mk (show Pr w1 g (((lines Veh.flds x.vs) ++ lines Req.flds x.qs) ++ lines Road.flds (x.rs.take (j + 1))) wz by rw [HU.out, h10]; exact hp); clear hp hf
              clear h32 h10
              go_wp2
              go_roundg (x.rs.length + 1 - (j + 1))
              case measure => omega
              case rel => exact ⟨j + 1, rfl, by omega, by go_num, HPz⟩
            · have hje : j = x.rs.length := by omega
              subst hje
              have HPX := HPj; clear HPj
              rw [List.take_length] at HPX
              have HTX := Aside0.mk (show x.text = (((lines Veh.flds x.vs) ++ lines Req.flds x.qs) ++ lines Road.flds x.rs) from rfl)
              generalize (((lines Veh.flds x.vs) ++ lines Req.flds x.qs) ++ lines Road.flds x.rs) = fin at HPX HTX
              obtain ⟨⟨vv, hgv, hrv⟩, hlow, hge⟩ := HPX.out
              obtain ⟨p1, p2⟩ := lay (Below.refl _ _) hgv
              obtain ⟨Av, cv, rfl⟩ := Kd.R_slice hrv
              have HRV := Aside0.mk hrv; have HLW := Aside0.mk hlow; clear hgv hrv hlow hge
              go_wp2
              go_ret
              exact ⟨_, rfl, by rw [HV.out, HTX.out]; exact Kd.R_lower HRV.out HB1.out.size, bel_call HB1.out HLW.out⟩
end
end Go.Proofs.YteefopaoodfapaaDoor.L1
