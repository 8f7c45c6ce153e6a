/- PrintInst of the reference. -/
import Derived.Test.YteefopaoodfapaaDoorP1c
namespace Go.Proofs.YteefopaoodfapaaDoor.L1
open Go.RowKit Go.Proofs.YteefopaoodfapaaDoorW.PrintWords Go.Proofs.YteefopaoodfapaaDoor.B
set_option linter.unusedVariables false
set_option linter.unusedSimpArgs false
attribute [local go_sem] mk_cell mk_frozen
def FieldsP (fs : List (List Int)) (v : Value) (lo : Nat) (W : World) : Prop := ∃ (B c : Nat), v = .slice (some ⟨B, 0, none⟩) fs.length c ∧ ReadFlds W B fs
theorem FieldsP.stays (w0 : World) (fs : List (List Int)) : GrowK.Stays w0 (FieldsP fs) := fun v lo W W' hb h => by
  obtain ⟨B, c, e, h⟩ := h
  refine ⟨B, c, e, fun j hj => ?_⟩
  obtain ⟨A, c, h1, h2⟩ := h j hj
  exact ⟨A, c, hb.2.1 _ _ h1, C_cells hb.2.1 h2⟩
section
variable (w : World)
set_option maxRecDepth 100000 in
set_option maxHeartbeats 8000000 in
theorem spec_printRaw (v : Value) (x : Inst) (hr : ReadInst w v x) (hf : x.Fit) : Calls Tryd.prog 17 #[v] w fun e w' => ∃ u, e = .returned u ∧ kByte.R 5 w' w.heap.size (fun _ => True) u x.text ∧ Below w.heap.size w w' := by
  obtain ⟨A0, c0, A1, c1, A2, c2, rfl, r0, r1, r2⟩ := hr
  have m0 := r0.2.1; have m1 := r1.2.1; have m2 := r2.2.1
  have hnv := hf.nv; have hnq := hf.nq; have hnr := hf.nr
  obtain ⟨W0, hW0⟩ : ∃ W0, W0 = w.alloc (.cells #[.slice A0 x.vs.length c0, .slice A1 x.qs.length c1, .slice A2 x.rs.length c2] 34) := ⟨_, rfl⟩
  have HR := Aside0.mk (show kVeh.C W0 A0 x.vs.length x.vs ∧ kReq.C W0 A1 x.qs.length x.qs ∧ kRoad.C W0 A2 x.rs.length x.rs by rw [hW0]; exact ⟨Kd.C_alloc r0 _, Kd.C_alloc r1 _, Kd.C_alloc r2 _⟩); clear r0 r1 r2
  have HP := Aside0.mk (show W0.heap[w.heap.size]? = some (.cells #[.slice A0 x.vs.length c0, .slice A1 x.qs.length c1, .slice A2 x.rs.length c2] 34 (0, 0)) by rw [hW0]; exact al_new _ _)
  have HW := Aside0.mk (show Below w.heap.size w W0 by rw [hW0]; exact below_alloc (Below.refl _ _) _)
  have HN := Aside0.mk (And.intro hnv (And.intro hnq hnr))
  have HF := Aside0.mk hf; clear hf
  have HZW := Aside0.mk (show W0.heap.size = w.heap.size + 1 by rw [hW0, al_size])
  have HW0 := Aside0.mk hW0; clear hW0
  go_enter Tryd.func17, Tryd.ntmps17
  go_wp2_with fail
  rw [← HW0.out]
  have HL0 := Aside0.mk (show kByte.R 5 (W0.alloc (.cells #[] 5)) W0.heap.size (fun _ => True) (.slice (some ⟨w.heap.size + 1, 0, none⟩) 0 0) [] by rw [← HZW.out]; exact flat_lit (d := kByte) rfl W0 W0.heap.size 5 [] (Nat.le_refl _) (Nat.zero_le _))
  have HB0 := Aside0.mk (below_alloc (Below.refl W0.heap.size W0) (.cells #[] 5))
  go_loopg [3, 4] (x.vs.length + 1) (fun q v3 v4 wr => ∃ j : Nat, q = x.vs.length + 1 - j ∧ j ≤ x.vs.length ∧ v4 = .int .i64 j ∧ Aside0 (kByte.R 5 wr W0.heap.size (fun _ => True) v3 (lines Veh.flds (x.vs.take j))) ∧ Aside0 (Below W0.heap.size W0 wr))
  case atStart => exact ⟨0, by omega, by omega, rfl, HL0, HB0⟩
  case round =>
    obtain ⟨j, rfl, hj, rfl, HO, HBj⟩ := hrel
    clear HL0 HB0
    by_cases hlt : j < x.vs.length
    · obtain ⟨ad, e0, t0, t1⟩ := Kd.flat_cells (d := kVeh) rfl (Kd.C_below HR.out.1 HBj.out) zV j hlt
      have HU := Aside0.mk (show (lines Veh.flds (x.vs.take (j + 1))) = (lines Veh.flds (x.vs.take j)) ++ lineOf (Veh.flds (x.vs.getD j zV)) by rw [lines_succ Veh.flds x.vs zV j hlt])
      have HY := Aside0.mk (fit_at HF.out.vs zV hlt)
      have HLL := Aside0.mk (show (lines Veh.flds (x.vs.take j)).length ≤ 4000000 by have h1 := lines_take_len Veh.flds x.vs (fun a ha => Veh.line_len (HF.out.vs a ha)) j; have h3 := HN.out; skip; omega)
      generalize (lines Veh.flds (x.vs.take j)) = us at HO HU HLL
      obtain ⟨Ao, co, rfl⟩ := Kd.R_slice HO.out
      have HLY := Aside0.mk (Veh.line_len HY.out); have HFL := Aside0.mk (Veh.flds_len HY.out)
      generalize hy : x.vs.getD j zV = y at t0 t1 HU HY HLY HFL
      have y0 := t0 _ rfl; have y1 := t1 0 _ rfl; have y2 := t1 1 _ rfl; have y3 := t1 2 _ rfl; have y4 := t1 3 _ rfl; have y5 := t1 4 _ rfl; have y6 := t1 5 _ rfl
      clear t0 t1 hy; cases e0
      have HB1 := HBj; have HP1 := Aside0.mk (blk_below HP.out HBj.out); have HO1 := HO; have HSZ1 := Aside0.mk (Nat.le_refl wr.heap.size)
      obtain ⟨w1, hw1⟩ : ∃ w1, w1 = wr := ⟨_, rfl⟩; subst hw1
      obtain ⟨p1, p2⟩ := lay (Below.refl _ _) HP1.out
      go_wp2_with fail
      clear p1 p2
      clear y0 y1 y2 y3 y4 y5 y6
      have hsz := HSZ1.out; have HB2 := Aside0.mk (bel_box HB1.out (.cells #[.int .i64 y.room, .int .i64 y.skills, .int .i64 y.home.x, .int .i64 y.home.y, .int .i64 y.home.o, .int .i64 y.home.c, .int .i64 y.home.h] 53)); have HP2 := Aside0.mk (blk_box HP1.out (.cells #[.int .i64 y.room, .int .i64 y.skills, .int .i64 y.home.x, .int .i64 y.home.y, .int .i64 y.home.o, .int .i64 y.home.c, .int .i64 y.home.h] 53)); have HO2 := Aside0.mk (Kd.R_below HO1.out (below_alloc (Below.refl _ _) (.cells #[.int .i64 y.room, .int .i64 y.skills, .int .i64 y.home.x, .int .i64 y.home.y, .int .i64 y.home.o, .int .i64 y.home.c, .int .i64 y.home.h] 53))); have HSZ2 := Aside0.mk (Nat.le_trans HSZ1.out (below_alloc (Below.refl _ _) (.cells #[.int .i64 y.room, .int .i64 y.skills, .int .i64 y.home.x, .int .i64 y.home.y, .int .i64 y.home.o, .int .i64 y.home.c, .int .i64 y.home.h] 53)).size); have HV2 := Aside0.mk (al_new w1 (.cells #[.int .i64 y.room, .int .i64 y.skills, .int .i64 y.home.x, .int .i64 y.home.y, .int .i64 y.home.o, .int .i64 y.home.c, .int .i64 y.home.h] 53)); have HGV := Aside0.mk (Nat.le_trans HB1.out.size (Nat.le_refl w1.heap.size)); clear hsz
      generalize hw2 : w1.alloc (.cells #[.int .i64 y.room, .int .i64 y.skills, .int .i64 y.home.x, .int .i64 y.home.y, .int .i64 y.home.o, .int .i64 y.home.c, .int .i64 y.home.h] 53) = w2 at HB2 HP2 HO2 HSZ2 HV2 ⊢; clear hw2 HB1 HP1 HO1 HSZ1
      refine GrowK.wp_region_deps 8 ⟨[(0, 25), (1, 26), (4, 29), (7, 32)], fun i zv lo hi W => GrowK.GAt [(0, LitP w2.heap.size [118, 101, 104, 105, 99, 108, 101]), (1, BytesP [118, 101, 104, 105, 99, 108, 101]), (4, BytesP (dec y.room)), (7, BytesP (tagT y.skills))] i zv lo W, fun i zv lo hi W W' hb h => GrowK.GAt.stays (l := [(0, LitP w2.heap.size [118, 101, 104, 105, 99, 108, 101]), (1, BytesP [118, 101, 104, 105, 99, 108, 101]), (4, BytesP (dec y.room)), (7, BytesP (tagT y.skills))]) ⟨LitP.stays _ _ _, BytesP.stays _ _, BytesP.stays _ _, BytesP.stays _ _, trivial⟩ i zv lo hi W W' hb h⟩ (by kernel_rfl) (show List.Pairwise (fun p q : Nat × Tmp => p.1 ≠ q.1 ∧ p.2 ≠ q.2) [(0, 25), (1, 26), (4, 29), (7, 32)] from by decide) (by kernel_rfl) (by rfl) ?_
      dsimp only [List.take, List.drop]
      refine GrowK.lexD_make (by rfl) (by rfl) (by intro u lo hi W hj hd; (with_reducible refine Aside0.out ?_); have hlow : w2.heap.size ≤ W.heap.size := hj.out.size; obtain ⟨p1, p2⟩ := lay (Below.refl _ _) (blk_below HP2.out hj.out); obtain ⟨v1, v2⟩ := lay (Below.refl _ _) (blk_below HV2.out hj.out); refine Aside0.mk ?_; dsimp only [Grow.fillM, List.foldl]; go_simp; refine GrowK.UponK.boxR hj ?_; exact GrowK.GAt.mk (P := LitP w2.heap.size [118, 101, 104, 105, 99, 108, 101]) (⟨hj.out.size, (0, 0), rfl, al_new W _⟩) (by intro p hp he; simp only [List.mem_cons, List.not_mem_nil, or_false] at hp; rcases hp with rfl | rfl | rfl | rfl <;> first | (simp at he; done) | rfl)) ?_
      refine GrowK.lexD_norm (fun K hK => ?_); go_simp; refine hK _ ?_; clear hK K
      refine GrowK.lexD_make (by rfl) (by rfl) (by intro u lo hi W hj hd; (with_reducible refine Aside0.out ?_); have hlow : w2.heap.size ≤ W.heap.size := hj.out.size; obtain ⟨p1, p2⟩ := lay (Below.refl _ _) (blk_below HP2.out hj.out); obtain ⟨v1, v2⟩ := lay (Below.refl _ _) (blk_below HV2.out hj.out); obtain ⟨hlo0, fr, hu0, hbk⟩ := ((hd 0 rfl (by kernel_rfl)).at (P := LitP w2.heap.size [118, 101, 104, 105, 99, 108, 101]) (by simp)); have hcv := GrowK.conv_mark Tryd.prog W 28 5 (lo 0) 7 7 Tryd.underlying28 Tryd.underlying5 hbk; simp only [List.length_cons, List.length_nil, Nat.zero_add, Nat.reduceAdd] at hu0; refine Aside0.mk ?_; dsimp only [Grow.fillM, List.foldl]; go_simp; refine GrowK.UponK.valW ?_ (GrowK.kp_mark hlo0 hbk); exact GrowK.GAt.mk (P := BytesP [118, 101, 104, 105, 99, 108, 101]) (⟨_, _, rfl, C_cells (GrowK.kp_mark hlo0 hbk).2.1 (lit_C (by decide) hbk), fun ad e => by cases e; obtain ⟨fr9, h9⟩ := (GrowK.kp_mark (k := 7) hlo0 hbk).2.2 _ _ _ _ hbk; exact ⟨_, fr9, h9⟩⟩) (by intro p hp he; simp only [List.mem_cons, List.not_mem_nil, or_false] at hp; rcases hp with rfl | rfl | rfl | rfl <;> first | (simp at he; done) | rfl)) ?_
      refine GrowK.lexD_norm (fun K hK => ?_); go_simp; refine hK _ ?_; clear hK K
      refine GrowK.lexD_do _ (by rfl) (by rfl) (by intro W hj; (with_reducible refine Aside0.out ?_); obtain ⟨p1, p2⟩ := lay (Below.refl _ _) (blk_below HP2.out hj.out); obtain ⟨v1, v2⟩ := lay (Below.refl _ _) (blk_below HV2.out hj.out); refine Aside0.mk ?_; go_simp; first | exact GrowK.UponK.val) ?_
      refine GrowK.lexD_norm (fun K hK => ?_); go_simp; refine hK _ ?_; clear hK K
      refine GrowK.lexD_do _ (by rfl) (by rfl) (by intro W hj; (with_reducible refine Aside0.out ?_); obtain ⟨p1, p2⟩ := lay (Below.refl _ _) (blk_below HP2.out hj.out); obtain ⟨v1, v2⟩ := lay (Below.refl _ _) (blk_below HV2.out hj.out); refine Aside0.mk ?_; go_simp; first | exact GrowK.UponK.val) ?_
      refine GrowK.lexD_norm (fun K hK => ?_); go_simp; refine hK _ ?_; clear hK K
      refine GrowK.lexD_make (by rfl) (by rfl) (by intro u lo hi W hj hd; (with_reducible refine Aside0.out ?_); have hlow : w2.heap.size ≤ W.heap.size := hj.out.size; obtain ⟨p1, p2⟩ := lay (Below.refl _ _) (blk_below HP2.out hj.out); obtain ⟨v1, v2⟩ := lay (Below.refl _ _) (blk_below HV2.out hj.out); refine Aside0.mk ?_; dsimp only [Grow.fillM, List.foldl]; go_simp; have cc := spec_dec W y.room (HY.out.room); refine GrowK.UponK.made hj ?_; (with_reducible refine Calls.mono cc ?_); rintro e w' ⟨v, rfl, hr, hb⟩; exact ⟨_, rfl, GrowK.GAt.mk (P := BytesP (dec y.room)) (BytesP.of hr) (by intro p hp he; simp only [List.mem_cons, List.not_mem_nil, or_false] at hp; rcases hp with rfl | rfl | rfl | rfl <;> first | (simp at he; done) | rfl), hb⟩) ?_
      refine GrowK.lexD_norm (fun K hK => ?_); go_simp; refine hK _ ?_; clear hK K
      refine GrowK.lexD_do _ (by rfl) (by rfl) (by intro W hj; (with_reducible refine Aside0.out ?_); obtain ⟨p1, p2⟩ := lay (Below.refl _ _) (blk_below HP2.out hj.out); obtain ⟨v1, v2⟩ := lay (Below.refl _ _) (blk_below HV2.out hj.out); refine Aside0.mk ?_; go_simp; first | exact GrowK.UponK.val) ?_
      refine GrowK.lexD_norm (fun K hK => ?_); go_simp; refine hK _ ?_; clear hK K
      refine GrowK.lexD_do _ (by rfl) (by rfl) (by intro W hj; (with_reducible refine Aside0.out ?_); obtain ⟨p1, p2⟩ := lay (Below.refl _ _) (blk_below HP2.out hj.out); obtain ⟨v1, v2⟩ := lay (Below.refl _ _) (blk_below HV2.out hj.out); refine Aside0.mk ?_; go_simp; first | exact GrowK.UponK.val) ?_
      refine GrowK.lexD_norm (fun K hK => ?_); go_simp; refine hK _ ?_; clear hK K
      refine GrowK.lexD_make (by rfl) (by rfl) (by intro u lo hi W hj hd; (with_reducible refine Aside0.out ?_); have hlow : w2.heap.size ≤ W.heap.size := hj.out.size; obtain ⟨p1, p2⟩ := lay (Below.refl _ _) (blk_below HP2.out hj.out); obtain ⟨v1, v2⟩ := lay (Below.refl _ _) (blk_below HV2.out hj.out); refine Aside0.mk ?_; dsimp only [Grow.fillM, List.foldl]; go_simp; have cc := spec_tagText W y.skills (HY.out.skills); refine GrowK.UponK.made hj ?_; (with_reducible refine Calls.mono cc ?_); rintro e w' ⟨v, rfl, hr, hb⟩; exact ⟨_, rfl, GrowK.GAt.mk (P := BytesP (tagT y.skills)) (hr) (by intro p hp he; simp only [List.mem_cons, List.not_mem_nil, or_false] at hp; rcases hp with rfl | rfl | rfl | rfl <;> first | (simp at he; done) | rfl), hb⟩) ?_
      refine GrowK.lexD_norm (fun K hK => ?_); go_simp; refine hK _ ?_; clear hK K
      refine GrowK.lexD_nil (fun u lo hi w3 hj hG hord => ?_)
      obtain ⟨_, fr0, hu0, _⟩ := (show LitP w2.heap.size [118, 101, 104, 105, 99, 108, 101] (u 0) (lo 0) w3 from ((hG 0 rfl).1).at (by simp))
      obtain ⟨D1, d1, hu1, hC1, hT1⟩ := (show BytesP [118, 101, 104, 105, 99, 108, 101] (u 1) (lo 1) w3 from ((hG 1 rfl).1).at (by simp))
      obtain ⟨D4, d4, hu4, hC4, hT4⟩ := (show BytesP (dec y.room) (u 4) (lo 4) w3 from ((hG 4 rfl).1).at (by simp))
      obtain ⟨D7, d7, hu7, hC7, hT7⟩ := (show BytesP (tagT y.skills) (u 7) (lo 7) w3 from ((hG 7 rfl).1).at (by simp))
      clear hG hord
      dsimp only [List.foldl]
      rw [hu0, hu1, hu4, hu7]
      clear hu0 hu1 hu4 hu7
      have HC := Aside0.mk (And.intro hC1 (And.intro hC4 hC7)); have HT := Aside0.mk (And.intro hT1 (And.intro hT4 hT7)); clear hC1 hC4 hC7 hT1 hT4 hT7
      refine GrowK.wpl_norm (fun K hK => ?_); go_simp; refine hK _ ?_; clear hK K
      have hb := hj.out; clear hj
      have HB3 := Aside0.mk (bel_call HB2.out hb); have HP3 := Aside0.mk (blk_below HP2.out hb); have HV3 := Aside0.mk (blk_below HV2.out hb); have HO3 := Aside0.mk (Kd.R_below HO2.out hb); have HSZ3 := Aside0.mk (Nat.le_trans HSZ2.out hb.size); clear hb
      have hba := below_alloc (Below.refl w3.heap.size w3) (.cells #[.slice D1 7 d1, .slice D4 (dec y.room).length d4, .slice D7 (tagT y.skills).length d7] 28)
      have HBa := Aside0.mk hba
      have HFa := Aside0.mk (flat_lit (d := kSl) rfl w3 w3.heap.size 28 ([⟨D1, 7, d1⟩, ⟨D4, (dec y.room).length, d4⟩, ⟨D7, (tagT y.skills).length, d7⟩] : List Sl) (Nat.le_refl _) (sl_max 3 (by decide)))
      have HXa := Aside0.mk (Flds.below hba (Flds.cons (p := ⟨D1, 7, d1⟩) (f := wVehicle) rfl ⟨HC.out.1, HT.out.1⟩ (Flds.cons (p := ⟨D4, (dec y.room).length, d4⟩) rfl ⟨HC.out.2.1, HT.out.2.1⟩ (Flds.cons (p := ⟨D7, (tagT y.skills).length, d7⟩) rfl ⟨HC.out.2.2, HT.out.2.2⟩ (Flds.nil _))))); clear hba HC HT
      obtain ⟨v1, v2⟩ := lay (Below.refl _ _) (blk_below HV3.out HBa.out)
      go_wp2_with fail
      clear v1 v2
      go_at_call 40
      refine (spec_placeFields _ y.home HY.out.home).mono ?_
      rintro e w4 ⟨v, ps, rfl, hr, hf, hb⟩
      obtain ⟨A', c', rfl, _, hc⟩ := Kd.R_reads hr
      have HC4 := Aside0.mk hc; have HF4 := Aside0.mk (Kd.R_below HFa.out hb); have HX4 := Aside0.mk (Flds.append (Flds.below hb HXa.out) hf); have HPL := Aside0.mk (show ps.length = 5 from hf.len)
      replace hb := bel_call HBa.out hb; clear hr hc hf HFa HXa HBa
      have HB4 := Aside0.mk (bel_call HB3.out hb); have HP4 := Aside0.mk (blk_below HP3.out hb); have HV4 := Aside0.mk (blk_below HV3.out hb); have HO4 := Aside0.mk (Kd.R_below HO3.out hb); have HSZ4 := Aside0.mk (Nat.le_trans HSZ3.out hb.size); clear hb
      have HFC := Aside0.mk (Kd.R_reads' HF4.out).2.2
      go_wp2_with (refine flat_append_full kSl rfl (w0 := w4) w4.heap.size rfl _ _ 74 28 zSl 24 rfl Tryd.underlying74 (by kernel_rfl) (by decide) (by decide) ⟨w3.heap.size, 0, none⟩ 3 ([⟨D1, 7, d1⟩, ⟨D4, (dec y.room).length, d4⟩, ⟨D7, (tagT y.skills).length, d7⟩] : List Sl) ps _ _ _ rfl rfl HFC.out HC4.out (by rw [HPL.out]; decide) (Below.refl _ _) (Nat.le_refl _) (by show (3 + ps.length) * 24 ≤ _; rw [HPL.out]; decide) ?_; intro v5 w5 hr hb; have HX5 := Aside0.mk (Flds.below hb HX4.out); have HF5 := Aside0.mk hr; clear hr; have HB5 := Aside0.mk (bel_call HB4.out hb); have HP5 := Aside0.mk (blk_below HP4.out hb); have HV5 := Aside0.mk (blk_below HV4.out hb); have HO5 := Aside0.mk (Kd.R_below HO4.out hb); have HSZ5 := Aside0.mk (Nat.le_trans HSZ4.out hb.size); clear hb)
      obtain ⟨B5, b5, rfl, _, _, _⟩ := Kd.R_form HF5.out (by simp)
      have HFC5 := Aside0.mk (Kd.R_reads' HF5.out).2.2
      have hlen : (([⟨D1, 7, d1⟩, ⟨D4, (dec y.room).length, d4⟩, ⟨D7, (tagT y.skills).length, d7⟩] : List Sl) ++ ps).length = y.flds.length := HX5.out.len
      rw [hlen]
      clear hlen
      go_at_call 41
      refine (spec_join _ B5 b5 y.flds (HX5.out.read HFC5.out) (by show (8 : Nat) ≤ 100; decide) HFL.out).mono ?_
      rintro e w6 ⟨v, rfl, hr, hb⟩
      obtain ⟨A', c', rfl, _, hc⟩ := Kd.R_reads hr
      have HJ := Aside0.mk hc; clear hr hc
      have HB6 := Aside0.mk (bel_call HB5.out hb); have HP6 := Aside0.mk (blk_below HP5.out hb); have HV6 := Aside0.mk (blk_below HV5.out hb); have HO6 := Aside0.mk (Kd.R_below HO5.out hb); have HSZ6 := Aside0.mk (Nat.le_trans HSZ5.out hb.size); clear hb
      go_wp2_with (refine Kd.flat_append_row kByte rfl (w0 := W0) W0.heap.size rfl _ _ 28 5 0 1 rfl Tryd.underlying28 (by kernel_rfl) (by decide) (by decide) _ us (lineOf y.flds) _ _ _ rfl rfl (HO6.out) (HJ.out) (HB6.out) (HB6.out).size (by have h1 := HLL.out; have h2 := HLY.out; omega) ?_; intro v9 w9 hr hb _ _; have HO9 := Aside0.mk hr; have HB9 := Aside0.mk hb; clear hr hb)
      go_roundg (x.vs.length + 1 - (j + 1))
      case measure => omega
      case rel => exact ⟨j + 1, rfl, by omega, by go_num, ⟨by rw [HU.out]; exact HO9.out⟩, HB9⟩
    · have hje : j = x.vs.length := by omega
      subst hje
      have HLX := HO; have HBX := HBj; clear HO HBj
      rw [List.take_length] at HLX
      have HDL := Aside0.mk (show (lines Veh.flds x.vs).length ≤ 400000 by have h1 := lines_take_len Veh.flds x.vs (fun a ha => Veh.line_len (HF.out.vs a ha)) x.vs.length; rw [List.take_length] at h1; have h3 := HN.out; skip; omega)
      obtain ⟨p1, p2⟩ := lay (Below.refl _ _) (blk_below HP.out HBX.out)
      go_wp2_with fail
      clear p1 p2
      go_loopg [3, 7] (x.qs.length + 1) (fun q v3 v7 wr => ∃ j : Nat, q = x.qs.length + 1 - j ∧ j ≤ x.qs.length ∧ v7 = .int .i64 j ∧ Aside0 (kByte.R 5 wr W0.heap.size (fun _ => True) v3 ((lines Veh.flds x.vs) ++ lines Req.flds (x.qs.take j))) ∧ Aside0 (Below W0.heap.size W0 wr))
      case atStart => exact ⟨0, by omega, by omega, rfl, ⟨by rw [List.take_zero, show lines Req.flds [] = [] from rfl, List.append_nil]; exact HLX.out⟩, HBX⟩
      case round =>
        clear HLX HBX
        obtain ⟨j, rfl, hj, rfl, HO, HBj⟩ := hrel
        by_cases hlt : j < x.qs.length
        · obtain ⟨ad, e0, t0, t1⟩ := Kd.flat_cells (d := kReq) rfl (Kd.C_below HR.out.2.1 HBj.out) zQ j hlt
          have HU := Aside0.mk (show ((lines Veh.flds x.vs) ++ lines Req.flds (x.qs.take (j + 1))) = ((lines Veh.flds x.vs) ++ lines Req.flds (x.qs.take j)) ++ lineOf (Req.flds (x.qs.getD j zQ)) by rw [lines_succ Req.flds x.qs zQ j hlt]; simp only [List.append_assoc])
          have HY := Aside0.mk (fit_at HF.out.qs zQ hlt)
          have HLL := Aside0.mk (show ((lines Veh.flds x.vs) ++ lines Req.flds (x.qs.take j)).length ≤ 4000000 by have h1 := lines_take_len Req.flds x.qs (fun a ha => Req.line_len (HF.out.qs a ha)) j; have h3 := HN.out; rw [List.length_append]; have h4 := HDL.out; omega)
          generalize ((lines Veh.flds x.vs) ++ lines Req.flds (x.qs.take j)) = us at HO HU HLL
          obtain ⟨Ao, co, rfl⟩ := Kd.R_slice HO.out
          have HLY := Aside0.mk (Req.line_len HY.out); have HFL := Aside0.mk (Req.flds_len HY.out)
          generalize hy : x.qs.getD j zQ = y at t0 t1 HU HY HLY HFL
          have y0 := t0 _ rfl; have y1 := t1 0 _ rfl; have y2 := t1 1 _ rfl; have y3 := t1 2 _ rfl; have y4 := t1 3 _ rfl; have y5 := t1 4 _ rfl; have y6 := t1 5 _ rfl; have y7 := t1 6 _ rfl; have y8 := t1 7 _ rfl; have y9 := t1 8 _ rfl; have y10 := t1 9 _ rfl; have y11 := t1 10 _ rfl
          clear t0 t1 hy; cases e0
          have HB1 := HBj; have HP1 := Aside0.mk (blk_below HP.out HBj.out); have HO1 := HO; have HSZ1 := Aside0.mk (Nat.le_refl wr.heap.size)
          obtain ⟨w1, hw1⟩ : ∃ w1, w1 = wr := ⟨_, rfl⟩; subst hw1
          obtain ⟨p1, p2⟩ := lay (Below.refl _ _) HP1.out
          go_wp2_with fail
          clear p1 p2
          clear y0 y1 y2 y3 y4 y5 y6 y7 y8 y9 y10 y11
          have hsz := HSZ1.out; have HB2 := Aside0.mk (bel_box HB1.out (.cells #[.int .i64 y.size, .int .i64 y.tags, .int .i64 y.from_.x, .int .i64 y.from_.y, .int .i64 y.from_.o, .int .i64 y.from_.c, .int .i64 y.from_.h, .int .i64 y.to_.x, .int .i64 y.to_.y, .int .i64 y.to_.o, .int .i64 y.to_.c, .int .i64 y.to_.h] 59)); have HP2 := Aside0.mk (blk_box HP1.out (.cells #[.int .i64 y.size, .int .i64 y.tags, .int .i64 y.from_.x, .int .i64 y.from_.y, .int .i64 y.from_.o, .int .i64 y.from_.c, .int .i64 y.from_.h, .int .i64 y.to_.x, .int .i64 y.to_.y, .int .i64 y.to_.o, .int .i64 y.to_.c, .int .i64 y.to_.h] 59)); have HO2 := Aside0.mk (Kd.R_below HO1.out (below_alloc (Below.refl _ _) (.cells #[.int .i64 y.size, .int .i64 y.tags, .int .i64 y.from_.x, .int .i64 y.from_.y, .int .i64 y.from_.o, .int .i64 y.from_.c, .int .i64 y.from_.h, .int .i64 y.to_.x, .int .i64 y.to_.y, .int .i64 y.to_.o, .int .i64 y.to_.c, .int .i64 y.to_.h] 59))); have HSZ2 := Aside0.mk (Nat.le_trans HSZ1.out (below_alloc (Below.refl _ _) (.cells #[.int .i64 y.size, .int .i64 y.tags, .int .i64 y.from_.x, .int .i64 y.from_.y, .int .i64 y.from_.o, .int .i64 y.from_.c, .int .i64 y.from_.h, .int .i64 y.to_.x, .int .i64 y.to_.y, .int .i64 y.to_.o, .int .i64 y.to_.c, .int .i64 y.to_.h] 59)).size); have HV2 := Aside0.mk (al_new w1 (.cells #[.int .i64 y.size, .int .i64 y.tags, .int .i64 y.from_.x, .int .i64 y.from_.y, .int .i64 y.from_.o, .int .i64 y.from_.c, .int .i64 y.from_.h, .int .i64 y.to_.x, .int .i64 y.to_.y, .int .i64 y.to_.o, .int .i64 y.to_.c, .int .i64 y.to_.h] 59)); have HGV := Aside0.mk (Nat.le_trans HB1.out.size (Nat.le_refl w1.heap.size)); clear hsz
          generalize hw2 : w1.alloc (.cells #[.int .i64 y.size, .int .i64 y.tags, .int .i64 y.from_.x, .int .i64 y.from_.y, .int .i64 y.from_.o, .int .i64 y.from_.c, .int .i64 y.from_.h, .int .i64 y.to_.x, .int .i64 y.to_.y, .int .i64 y.to_.o, .int .i64 y.to_.c, .int .i64 y.to_.h] 59) = w2 at HB2 HP2 HO2 HSZ2 HV2 ⊢; clear hw2 HB1 HP1 HO1 HSZ1
          refine GrowK.wp_region_deps 8 ⟨[(0, 55), (1, 56), (4, 59), (7, 62)], fun i zv lo hi W => GrowK.GAt [(0, LitP w2.heap.size [114, 101, 113, 117, 101, 115, 116]), (1, BytesP [114, 101, 113, 117, 101, 115, 116]), (4, BytesP (dec y.size)), (7, BytesP (tagT y.tags))] i zv lo W, fun i zv lo hi W W' hb h => GrowK.GAt.stays (l := [(0, LitP w2.heap.size [114, 101, 113, 117, 101, 115, 116]), (1, BytesP [114, 101, 113, 117, 101, 115, 116]), (4, BytesP (dec y.size)), (7, BytesP (tagT y.tags))]) ⟨LitP.stays _ _ _, BytesP.stays _ _, BytesP.stays _ _, BytesP.stays _ _, trivial⟩ i zv lo hi W W' hb h⟩ (by kernel_rfl) (show List.Pairwise (fun p q : Nat × Tmp => p.1 ≠ q.1 ∧ p.2 ≠ q.2) [(0, 55), (1, 56), (4, 59), (7, 62)] from by decide) (by kernel_rfl) (by rfl) ?_
          dsimp only [List.take, List.drop]
          refine GrowK.lexD_make (by rfl) (by rfl) (by intro u lo hi W hj hd; (with_reducible refine Aside0.out ?_); have hlow : w2.heap.size ≤ W.heap.size := hj.out.size; obtain ⟨p1, p2⟩ := lay (Below.refl _ _) (blk_below HP2.out hj.out); obtain ⟨v1, v2⟩ := lay (Below.refl _ _) (blk_below HV2.out hj.out); refine Aside0.mk ?_; dsimp only [Grow.fillM, List.foldl]; go_simp; refine GrowK.UponK.boxR hj ?_; exact GrowK.GAt.mk (P := LitP w2.heap.size [114, 101, 113, 117, 101, 115, 116]) (⟨hj.out.size, (0, 0), rfl, al_new W _⟩) (by intro p hp he; simp only [List.mem_cons, List.not_mem_nil, or_false] at hp; rcases hp with rfl | rfl | rfl | rfl <;> first | (simp at he; done) | rfl)) ?_
          refine GrowK.lexD_norm (fun K hK => ?_); go_simp; refine hK _ ?_; clear hK K
          refine GrowK.lexD_make (by rfl) (by rfl) (by intro u lo hi W hj hd; (with_reducible refine Aside0.out ?_); have hlow : w2.heap.size ≤ W.heap.size := hj.out.size; obtain ⟨p1, p2⟩ := lay (Below.refl _ _) (blk_below HP2.out hj.out); obtain ⟨v1, v2⟩ := lay (Below.refl _ _) (blk_below HV2.out hj.out); obtain ⟨hlo0, fr, hu0, hbk⟩ := ((hd 0 rfl (by kernel_rfl)).at (P := LitP w2.heap.size [114, 101, 113, 117, 101, 115, 116]) (by simp)); have hcv := GrowK.conv_mark Tryd.prog W 28 5 (lo 0) 7 7 Tryd.underlying28 Tryd.underlying5 hbk; simp only [List.length_cons, List.length_nil, Nat.zero_add, Nat.reduceAdd] at hu0; refine Aside0.mk ?_; dsimp only [Grow.fillM, List.foldl]; go_simp; refine GrowK.UponK.valW ?_ (GrowK.kp_mark hlo0 hbk); exact GrowK.GAt.mk (P := BytesP [114, 101, 113, 117, 101, 115, 116]) (⟨_, _, rfl, C_cells (GrowK.kp_mark hlo0 hbk).2.1 (lit_C (by decide) hbk), fun ad e => by cases e; obtain ⟨fr9, h9⟩ := (GrowK.kp_mark (k := 7) hlo0 hbk).2.2 _ _ _ _ hbk; exact ⟨_, fr9, h9⟩⟩) (by intro p hp he; simp only [List.mem_cons, List.not_mem_nil, or_false] at hp; rcases hp with rfl | rfl | rfl | rfl <;> first | (simp at he; done) | rfl)) ?_
          refine GrowK.lexD_norm (fun K hK => ?_); go_simp; refine hK _ ?_; clear hK K
          refine GrowK.lexD_do _ (by rfl) (by rfl) (by intro W hj; (with_reducible refine Aside0.out ?_); obtain ⟨p1, p2⟩ := lay (Below.refl _ _) (blk_below HP2.out hj.out); obtain ⟨v1, v2⟩ := lay (Below.refl _ _) (blk_below HV2.out hj.out); refine Aside0.mk ?_; go_simp; first | exact GrowK.UponK.val) ?_
          refine GrowK.lexD_norm (fun K hK => ?_); go_simp; refine hK _ ?_; clear hK K
          refine GrowK.lexD_do _ (by rfl) (by rfl) (by intro W hj; (with_reducible refine Aside0.out ?_); obtain ⟨p1, p2⟩ := lay (Below.refl _ _) (blk_below HP2.out hj.out); obtain ⟨v1, v2⟩ := lay (Below.refl _ _) (blk_below HV2.out hj.out); refine Aside0.mk ?_; go_simp; first | exact GrowK.UponK.val) ?_
          refine GrowK.lexD_norm (fun K hK => ?_); go_simp; refine hK _ ?_; clear hK K
          refine GrowK.lexD_make (by rfl) (by rfl) (by intro u lo hi W hj hd; (with_reducible refine Aside0.out ?_); have hlow : w2.heap.size ≤ W.heap.size := hj.out.size; obtain ⟨p1, p2⟩ := lay (Below.refl _ _) (blk_below HP2.out hj.out); obtain ⟨v1, v2⟩ := lay (Below.refl _ _) (blk_below HV2.out hj.out); refine Aside0.mk ?_; dsimp only [Grow.fillM, List.foldl]; go_simp; have cc := spec_dec W y.size (HY.out.size); refine GrowK.UponK.made hj ?_; (with_reducible refine Calls.mono cc ?_); rintro e w' ⟨v, rfl, hr, hb⟩; exact ⟨_, rfl, GrowK.GAt.mk (P := BytesP (dec y.size)) (BytesP.of hr) (by intro p hp he; simp only [List.mem_cons, List.not_mem_nil, or_false] at hp; rcases hp with rfl | rfl | rfl | rfl <;> first | (simp at he; done) | rfl), hb⟩) ?_
          refine GrowK.lexD_norm (fun K hK => ?_); go_simp; refine hK _ ?_; clear hK K
          refine GrowK.lexD_do _ (by rfl) (by rfl) (by intro W hj; (with_reducible refine Aside0.out ?_); obtain ⟨p1, p2⟩ := lay (Below.refl _ _) (blk_below HP2.out hj.out); obtain ⟨v1, v2⟩ := lay (Below.refl _ _) (blk_below HV2.out hj.out); refine Aside0.mk ?_; go_simp; first | exact GrowK.UponK.val) ?_
          refine GrowK.lexD_norm (fun K hK => ?_); go_simp; refine hK _ ?_; clear hK K
          refine GrowK.lexD_do _ (by rfl) (by rfl) (by intro W hj; (with_reducible refine Aside0.out ?_); obtain ⟨p1, p2⟩ := lay (Below.refl _ _) (blk_below HP2.out hj.out); obtain ⟨v1, v2⟩ := lay (Below.refl _ _) (blk_below HV2.out hj.out); refine Aside0.mk ?_; go_simp; first | exact GrowK.UponK.val) ?_
          refine GrowK.lexD_norm (fun K hK => ?_); go_simp; refine hK _ ?_; clear hK K
          refine GrowK.lexD_make (by rfl) (by rfl) (by intro u lo hi W hj hd; (with_reducible refine Aside0.out ?_); have hlow : w2.heap.size ≤ W.heap.size := hj.out.size; obtain ⟨p1, p2⟩ := lay (Below.refl _ _) (blk_below HP2.out hj.out); obtain ⟨v1, v2⟩ := lay (Below.refl _ _) (blk_below HV2.out hj.out); refine Aside0.mk ?_; dsimp only [Grow.fillM, List.foldl]; go_simp; have cc := spec_tagText W y.tags (HY.out.tags); refine GrowK.UponK.made hj ?_; (with_reducible refine Calls.mono cc ?_); rintro e w' ⟨v, rfl, hr, hb⟩; exact ⟨_, rfl, GrowK.GAt.mk (P := BytesP (tagT y.tags)) (hr) (by intro p hp he; simp only [List.mem_cons, List.not_mem_nil, or_false] at hp; rcases hp with rfl | rfl | rfl | rfl <;> first | (simp at he; done) | rfl), hb⟩) ?_
          refine GrowK.lexD_norm (fun K hK => ?_); go_simp; refine hK _ ?_; clear hK K
          refine GrowK.lexD_nil (fun u lo hi w3 hj hG hord => ?_)
          obtain ⟨_, fr0, hu0, _⟩ := (show LitP w2.heap.size [114, 101, 113, 117, 101, 115, 116] (u 0) (lo 0) w3 from ((hG 0 rfl).1).at (by simp))
          obtain ⟨D1, d1, hu1, hC1, hT1⟩ := (show BytesP [114, 101, 113, 117, 101, 115, 116] (u 1) (lo 1) w3 from ((hG 1 rfl).1).at (by simp))
          obtain ⟨D4, d4, hu4, hC4, hT4⟩ := (show BytesP (dec y.size) (u 4) (lo 4) w3 from ((hG 4 rfl).1).at (by simp))
          obtain ⟨D7, d7, hu7, hC7, hT7⟩ := (show BytesP (tagT y.tags) (u 7) (lo 7) w3 from ((hG 7 rfl).1).at (by simp))
          clear hG hord
          dsimp only [List.foldl]
          rw [hu0, hu1, hu4, hu7]
          clear hu0 hu1 hu4 hu7
          have HC := Aside0.mk (And.intro hC1 (And.intro hC4 hC7)); have HT := Aside0.mk (And.intro hT1 (And.intro hT4 hT7)); clear hC1 hC4 hC7 hT1 hT4 hT7
          refine GrowK.wpl_norm (fun K hK => ?_); go_simp; refine hK _ ?_; clear hK K
          have hb := hj.out; clear hj
          have HB3 := Aside0.mk (bel_call HB2.out hb); have HP3 := Aside0.mk (blk_below HP2.out hb); have HV3 := Aside0.mk (blk_below HV2.out hb); have HO3 := Aside0.mk (Kd.R_below HO2.out hb); have HSZ3 := Aside0.mk (Nat.le_trans HSZ2.out hb.size); clear hb
          have hba := below_alloc (Below.refl w3.heap.size w3) (.cells #[.slice D1 7 d1, .slice D4 (dec y.size).length d4, .slice D7 (tagT y.tags).length d7] 28)
          have HBa := Aside0.mk hba
          have HFa := Aside0.mk (flat_lit (d := kSl) rfl w3 w3.heap.size 28 ([⟨D1, 7, d1⟩, ⟨D4, (dec y.size).length, d4⟩, ⟨D7, (tagT y.tags).length, d7⟩] : List Sl) (Nat.le_refl _) (sl_max 3 (by decide)))
          have HXa := Aside0.mk (Flds.below hba (Flds.cons (p := ⟨D1, 7, d1⟩) (f := wRequest) rfl ⟨HC.out.1, HT.out.1⟩ (Flds.cons (p := ⟨D4, (dec y.size).length, d4⟩) rfl ⟨HC.out.2.1, HT.out.2.1⟩ (Flds.cons (p := ⟨D7, (tagT y.tags).length, d7⟩) rfl ⟨HC.out.2.2, HT.out.2.2⟩ (Flds.nil _))))); clear hba HC HT
          obtain ⟨v1, v2⟩ := lay (Below.refl _ _) (blk_below HV3.out HBa.out)
          go_wp2_with fail
          clear v1 v2
          go_at_call 40
          refine (spec_placeFields _ y.from_ HY.out.from_).mono ?_
          rintro e w4 ⟨v, ps, rfl, hr, hf, hb⟩
          obtain ⟨A', c', rfl, _, hc⟩ := Kd.R_reads hr
          have HC4 := Aside0.mk hc; have HF4 := Aside0.mk (Kd.R_below HFa.out hb); have HX4 := Aside0.mk (Flds.append (Flds.below hb HXa.out) hf); have HPL := Aside0.mk (show ps.length = 5 from hf.len)
          replace hb := bel_call HBa.out hb; clear hr hc hf HFa HXa HBa
          have HB4 := Aside0.mk (bel_call HB3.out hb); have HP4 := Aside0.mk (blk_below HP3.out hb); have HV4 := Aside0.mk (blk_below HV3.out hb); have HO4 := Aside0.mk (Kd.R_below HO3.out hb); have HSZ4 := Aside0.mk (Nat.le_trans HSZ3.out hb.size); clear hb
          have HFC := Aside0.mk (Kd.R_reads' HF4.out).2.2
          go_wp2_with (refine flat_append_full kSl rfl (w0 := w4) w4.heap.size rfl _ _ 74 28 zSl 24 rfl Tryd.underlying74 (by kernel_rfl) (by decide) (by decide) ⟨w3.heap.size, 0, none⟩ 3 ([⟨D1, 7, d1⟩, ⟨D4, (dec y.size).length, d4⟩, ⟨D7, (tagT y.tags).length, d7⟩] : List Sl) ps _ _ _ rfl rfl HFC.out HC4.out (by rw [HPL.out]; decide) (Below.refl _ _) (Nat.le_refl _) (by show (3 + ps.length) * 24 ≤ _; rw [HPL.out]; decide) ?_; intro va wa hr hb; have HXa := Aside0.mk (Flds.below hb HX4.out); have HFa := Aside0.mk hr; have HBa := Aside0.mk hb; clear hr hb; obtain ⟨v1, v2⟩ := lay (Below.refl _ _) (blk_below HV4.out HBa.out); obtain ⟨Aa, ca, rfl⟩ := Kd.R_slice HFa.out)
          clear v1 v2
          go_at_call 40
          refine (spec_placeFields _ y.to_ HY.out.to_).mono ?_
          rintro e wb ⟨v, qs, rfl, hr, hf, hb⟩
          obtain ⟨A'', c'', rfl, _, hc⟩ := Kd.R_reads hr
          have HCb := Aside0.mk hc; have HFb := Aside0.mk (Kd.R_below HFa.out hb); have HXb := Aside0.mk (Flds.append (Flds.below hb HXa.out) hf); have HQL := Aside0.mk (show qs.length = 5 from hf.len); have HBb := Aside0.mk (bel_call HBa.out hb); clear hr hc hf hb HFa HXa HBa
          have HSb := Aside0.mk (show (([⟨D1, 7, d1⟩, ⟨D4, (dec y.size).length, d4⟩, ⟨D7, (tagT y.tags).length, d7⟩] : List Sl) ++ ps).length = 8 by rw [List.length_append, HPL.out]; rfl)
          go_wp2_with (refine Kd.flat_append_row kSl rfl (w0 := w4) w4.heap.size rfl _ _ 74 28 zSl 24 rfl Tryd.underlying74 (by kernel_rfl) (by decide) (by decide) _ (([⟨D1, 7, d1⟩, ⟨D4, (dec y.size).length, d4⟩, ⟨D7, (tagT y.tags).length, d7⟩] : List Sl) ++ ps) qs _ _ _ rfl rfl (HFb.out) (HCb.out) (HBb.out) (HBb.out).size (by rw [HSb.out, HQL.out]; decide) ?_; intro v5 w5 hr hb hg _; have HX5 := Aside0.mk (Flds.grown HFb.out hg HXb.out); have HF5 := Aside0.mk hr; clear hr hg; have HB5 := Aside0.mk (bel_call HB4.out hb); have HP5 := Aside0.mk (blk_below HP4.out hb); have HV5 := Aside0.mk (blk_below HV4.out hb); have HO5 := Aside0.mk (Kd.R_below HO4.out hb); have HSZ5 := Aside0.mk (Nat.le_trans HSZ4.out hb.size); clear hb)
          obtain ⟨B5, b5, rfl, _, _, _⟩ := Kd.R_form HF5.out (by simp)
          have HFC5 := Aside0.mk (Kd.R_reads' HF5.out).2.2
          have hlen : ((([⟨D1, 7, d1⟩, ⟨D4, (dec y.size).length, d4⟩, ⟨D7, (tagT y.tags).length, d7⟩] : List Sl) ++ ps) ++ qs).length = y.flds.length := HX5.out.len
          rw [hlen]
          clear hlen
          go_at_call 41
          refine (spec_join _ B5 b5 y.flds (HX5.out.read HFC5.out) (by show (13 : Nat) ≤ 100; decide) HFL.out).mono ?_
          rintro e w6 ⟨v, rfl, hr, hb⟩
          obtain ⟨A', c', rfl, _, hc⟩ := Kd.R_reads hr
          have HJ := Aside0.mk hc; clear hr hc
          have HB6 := Aside0.mk (bel_call HB5.out hb); have HP6 := Aside0.mk (blk_below HP5.out hb); have HV6 := Aside0.mk (blk_below HV5.out hb); have HO6 := Aside0.mk (Kd.R_below HO5.out hb); have HSZ6 := Aside0.mk (Nat.le_trans HSZ5.out hb.size); clear hb
          go_wp2_with (refine Kd.flat_append_row kByte rfl (w0 := W0) W0.heap.size rfl _ _ 28 5 0 1 rfl Tryd.underlying28 (by kernel_rfl) (by decide) (by decide) _ us (lineOf y.flds) _ _ _ rfl rfl (HO6.out) (HJ.out) (HB6.out) (HB6.out).size (by have h1 := HLL.out; have h2 := HLY.out; omega) ?_; intro v9 w9 hr hb _ _; have HO9 := Aside0.mk hr; have HB9 := Aside0.mk hb; clear hr hb)
          go_roundg (x.qs.length + 1 - (j + 1))
          case measure => omega
          case rel => exact ⟨j + 1, rfl, by omega, by go_num, ⟨by rw [HU.out]; exact HO9.out⟩, HB9⟩
        · have hje : j = x.qs.length := by omega
          subst hje
          have HLX := HO; have HBX := HBj; clear HO HBj
          rw [List.take_length] at HLX
          have HDL := Aside0.mk (show ((lines Veh.flds x.vs) ++ lines Req.flds x.qs).length ≤ 1600000 by have h1 := lines_take_len Req.flds x.qs (fun a ha => Req.line_len (HF.out.qs a ha)) x.qs.length; rw [List.take_length] at h1; have h3 := HN.out; rw [List.length_append]; have h4 := HDL.out; omega)
          obtain ⟨p1, p2⟩ := lay (Below.refl _ _) (blk_below HP.out HBX.out)
          go_wp2_with fail
          clear p1 p2
          go_loopg [3, 10] (x.rs.length + 1) (fun q v3 v10 wr => ∃ j : Nat, q = x.rs.length + 1 - j ∧ j ≤ x.rs.length ∧ v10 = .int .i64 j ∧ Aside0 (kByte.R 5 wr W0.heap.size (fun _ => True) v3 (((lines Veh.flds x.vs) ++ lines Req.flds x.qs) ++ lines Road.flds (x.rs.take j))) ∧ Aside0 (Below W0.heap.size W0 wr))
          case atStart => exact ⟨0, by omega, by omega, rfl, ⟨by rw [List.take_zero, show lines Road.flds [] = [] from rfl, List.append_nil]; exact HLX.out⟩, HBX⟩
          case round =>
            clear HLX HBX
            obtain ⟨j, rfl, hj, rfl, HO, HBj⟩ := hrel
            by_cases hlt : j < x.rs.length
            · obtain ⟨ad, e0, t0, t1⟩ := Kd.flat_cells (d := kRoad) rfl (Kd.C_below HR.out.2.2 HBj.out) zR j hlt
              have HU := Aside0.mk (show (((lines Veh.flds x.vs) ++ lines Req.flds x.qs) ++ lines Road.flds (x.rs.take (j + 1))) = (((lines Veh.flds x.vs) ++ lines Req.flds x.qs) ++ lines Road.flds (x.rs.take j)) ++ lineOf (Road.flds (x.rs.getD j zR)) by rw [lines_succ Road.flds x.rs zR j hlt]; simp only [List.append_assoc])
              have HY := Aside0.mk (fit_at HF.out.rs zR hlt)
              have HLL := Aside0.mk (show (((lines Veh.flds x.vs) ++ lines Req.flds x.qs) ++ lines Road.flds (x.rs.take j)).length ≤ 4000000 by have h1 := lines_take_len Road.flds x.rs (fun a ha => Road.line_len (HF.out.rs a ha)) j; have h3 := HN.out; rw [List.length_append]; have h4 := HDL.out; omega)
              generalize (((lines Veh.flds x.vs) ++ lines Req.flds x.qs) ++ lines Road.flds (x.rs.take j)) = us at HO HU HLL
              obtain ⟨Ao, co, rfl⟩ := Kd.R_slice HO.out
              have HLY := Aside0.mk (Road.line_len HY.out); have HFL := Aside0.mk (Road.flds_len HY.out)
              generalize hy : x.rs.getD j zR = y at t0 t1 HU HY HLY HFL
              have y0 := t0 _ rfl; have y1 := t1 0 _ rfl; have y2 := t1 1 _ rfl
              obtain ⟨fl, hfl⟩ : ∃ fl, fl = y.flds := ⟨_, rfl⟩; have HFLD := Aside0.mk hfl; clear hfl
              obtain ⟨ln, hln⟩ : ∃ ln, ln = lineOf fl := ⟨_, rfl⟩; have HLN := Aside0.mk hln; clear hln
              have HUU := Aside0.mk (show (((lines Veh.flds x.vs) ++ lines Req.flds x.qs) ++ lines Road.flds (x.rs.take (j + 1))) = us ++ ln by rw [HLN.out, HFLD.out]; exact HU.out); have HLL2 := Aside0.mk (show ln.length ≤ 300 by rw [HLN.out, HFLD.out]; exact HLY.out); have HFL2 := Aside0.mk (show (∀ f, f ∈ fl → f.length ≤ 16) ∧ fl.length ≤ 100 by rw [HFLD.out]; exact ⟨HFL.out, by show (4 : Nat) ≤ 100; decide⟩); clear HU HLY HFL
              clear t0 t1 hy; cases e0
              have HB1 := HBj; have HP1 := Aside0.mk (blk_below HP.out HBj.out); have HO1 := HO; have HSZ1 := Aside0.mk (Nat.le_refl wr.heap.size)
              obtain ⟨w1, hw1⟩ : ∃ w1, w1 = wr := ⟨_, rfl⟩; subst hw1
              obtain ⟨p1, p2⟩ := lay (Below.refl _ _) HP1.out
              go_wp2_with fail
              clear p1 p2
              clear y0 y1 y2
              have hsz := HSZ1.out; have HB2 := Aside0.mk (bel_box HB1.out (.cells #[.int .i64 y.a, .int .i64 y.b, .int .i64 y.t] 61)); have HP2 := Aside0.mk (blk_box HP1.out (.cells #[.int .i64 y.a, .int .i64 y.b, .int .i64 y.t] 61)); have HO2 := Aside0.mk (Kd.R_below HO1.out (below_alloc (Below.refl _ _) (.cells #[.int .i64 y.a, .int .i64 y.b, .int .i64 y.t] 61))); have HSZ2 := Aside0.mk (Nat.le_trans HSZ1.out (below_alloc (Below.refl _ _) (.cells #[.int .i64 y.a, .int .i64 y.b, .int .i64 y.t] 61)).size); have HV2 := Aside0.mk (al_new w1 (.cells #[.int .i64 y.a, .int .i64 y.b, .int .i64 y.t] 61)); have HGV := Aside0.mk (Nat.le_trans HB1.out.size (Nat.le_refl w1.heap.size)); clear hsz
              generalize hw2 : w1.alloc (.cells #[.int .i64 y.a, .int .i64 y.b, .int .i64 y.t] 61) = w2 at HB2 HP2 HO2 HSZ2 HV2 ⊢; clear hw2 HB1 HP1 HO1 HSZ1
              refine GrowK.wp_region_deps 14 ⟨[(1, 91), (2, 92), (5, 95), (8, 98), (11, 101), (12, 102), (13, 103)], fun i zv lo hi W => GrowK.GAt [(1, LitP w2.heap.size [114, 111, 97, 100]), (2, BytesP [114, 111, 97, 100]), (5, BytesP (dec y.a)), (8, BytesP (dec y.b)), (11, BytesP (dec y.t)), (12, FieldsP fl), (13, BytesP ln)] i zv lo W, fun i zv lo hi W W' hb h => GrowK.GAt.stays (l := [(1, LitP w2.heap.size [114, 111, 97, 100]), (2, BytesP [114, 111, 97, 100]), (5, BytesP (dec y.a)), (8, BytesP (dec y.b)), (11, BytesP (dec y.t)), (12, FieldsP fl), (13, BytesP ln)]) ⟨LitP.stays _ _ _, BytesP.stays _ _, BytesP.stays _ _, BytesP.stays _ _, BytesP.stays _ _, FieldsP.stays _ _, BytesP.stays _ _, trivial⟩ i zv lo hi W W' hb h⟩ (by kernel_rfl) (show List.Pairwise (fun p q : Nat × Tmp => p.1 ≠ q.1 ∧ p.2 ≠ q.2) [(1, 91), (2, 92), (5, 95), (8, 98), (11, 101), (12, 102), (13, 103)] from by decide) (by kernel_rfl) (by rfl) ?_
              dsimp only [List.take, List.drop]
              refine GrowK.lexD_do _ (by rfl) (by rfl) (by intro W hj; (with_reducible refine Aside0.out ?_); obtain ⟨p1, p2⟩ := lay (Below.refl _ _) (blk_below HP2.out hj.out); obtain ⟨v1, v2⟩ := lay (Below.refl _ _) (blk_below HV2.out hj.out); refine Aside0.mk ?_; go_simp; first | exact GrowK.UponK.val) ?_
              refine GrowK.lexD_norm (fun K hK => ?_); go_simp; refine hK _ ?_; clear hK K
              refine GrowK.lexD_make (by rfl) (by rfl) (by intro u lo hi W hj hd; (with_reducible refine Aside0.out ?_); have hlow : w2.heap.size ≤ W.heap.size := hj.out.size; obtain ⟨p1, p2⟩ := lay (Below.refl _ _) (blk_below HP2.out hj.out); obtain ⟨v1, v2⟩ := lay (Below.refl _ _) (blk_below HV2.out hj.out); refine Aside0.mk ?_; dsimp only [Grow.fillM, List.foldl]; go_simp; refine GrowK.UponK.boxR hj ?_; exact GrowK.GAt.mk (P := LitP w2.heap.size [114, 111, 97, 100]) (⟨hj.out.size, (0, 0), rfl, al_new W _⟩) (by intro p hp he; simp only [List.mem_cons, List.not_mem_nil, or_false] at hp; rcases hp with rfl | rfl | rfl | rfl | rfl | rfl | rfl <;> first | (simp at he; done) | rfl)) ?_
              refine GrowK.lexD_norm (fun K hK => ?_); go_simp; refine hK _ ?_; clear hK K
              refine GrowK.lexD_make (by rfl) (by rfl) (by intro u lo hi W hj hd; (with_reducible refine Aside0.out ?_); have hlow : w2.heap.size ≤ W.heap.size := hj.out.size; obtain ⟨p1, p2⟩ := lay (Below.refl _ _) (blk_below HP2.out hj.out); obtain ⟨v1, v2⟩ := lay (Below.refl _ _) (blk_below HV2.out hj.out); obtain ⟨hlo0, fr, hu0, hbk⟩ := ((hd 1 rfl (by kernel_rfl)).at (P := LitP w2.heap.size [114, 111, 97, 100]) (by simp)); have hcv := GrowK.conv_mark Tryd.prog W 28 5 (lo 1) 4 4 Tryd.underlying28 Tryd.underlying5 hbk; simp only [List.length_cons, List.length_nil, Nat.zero_add, Nat.reduceAdd] at hu0; refine Aside0.mk ?_; dsimp only [Grow.fillM, List.foldl]; go_simp; refine GrowK.UponK.valW ?_ (GrowK.kp_mark hlo0 hbk); exact GrowK.GAt.mk (P := BytesP [114, 111, 97, 100]) (⟨_, _, rfl, C_cells (GrowK.kp_mark hlo0 hbk).2.1 (lit_C (by decide) hbk), fun ad e => by cases e; obtain ⟨fr9, h9⟩ := (GrowK.kp_mark (k := 4) hlo0 hbk).2.2 _ _ _ _ hbk; exact ⟨_, fr9, h9⟩⟩) (by intro p hp he; simp only [List.mem_cons, List.not_mem_nil, or_false] at hp; rcases hp with rfl | rfl | rfl | rfl | rfl | rfl | rfl <;> first | (simp at he; done) | rfl)) ?_
              refine GrowK.lexD_norm (fun K hK => ?_); go_simp; refine hK _ ?_; clear hK K
              refine GrowK.lexD_do _ (by rfl) (by rfl) (by intro W hj; (with_reducible refine Aside0.out ?_); obtain ⟨p1, p2⟩ := lay (Below.refl _ _) (blk_below HP2.out hj.out); obtain ⟨v1, v2⟩ := lay (Below.refl _ _) (blk_below HV2.out hj.out); refine Aside0.mk ?_; go_simp; first | exact GrowK.UponK.val) ?_
              refine GrowK.lexD_norm (fun K hK => ?_); go_simp; refine hK _ ?_; clear hK K
              refine GrowK.lexD_do _ (by rfl) (by rfl) (by intro W hj; (with_reducible refine Aside0.out ?_); obtain ⟨p1, p2⟩ := lay (Below.refl _ _) (blk_below HP2.out hj.out); obtain ⟨v1, v2⟩ := lay (Below.refl _ _) (blk_below HV2.out hj.out); refine Aside0.mk ?_; go_simp; first | exact GrowK.UponK.val) ?_
              refine GrowK.lexD_norm (fun K hK => ?_); go_simp; refine hK _ ?_; clear hK K
              refine GrowK.lexD_make (by rfl) (by rfl) (by intro u lo hi W hj hd; (with_reducible refine Aside0.out ?_); have hlow : w2.heap.size ≤ W.heap.size := hj.out.size; obtain ⟨p1, p2⟩ := lay (Below.refl _ _) (blk_below HP2.out hj.out); obtain ⟨v1, v2⟩ := lay (Below.refl _ _) (blk_below HV2.out hj.out); refine Aside0.mk ?_; dsimp only [Grow.fillM, List.foldl]; go_simp; have cc := spec_dec W y.a (HY.out.a); refine GrowK.UponK.made hj ?_; (with_reducible refine Calls.mono cc ?_); rintro e w' ⟨v, rfl, hr, hb⟩; exact ⟨_, rfl, GrowK.GAt.mk (P := BytesP (dec y.a)) (BytesP.of hr) (by intro p hp he; simp only [List.mem_cons, List.not_mem_nil, or_false] at hp; rcases hp with rfl | rfl | rfl | rfl | rfl | rfl | rfl <;> first | (simp at he; done) | rfl), hb⟩) ?_
              refine GrowK.lexD_norm (fun K hK => ?_); go_simp; refine hK _ ?_; clear hK K
              refine GrowK.lexD_do _ (by rfl) (by rfl) (by intro W hj; (with_reducible refine Aside0.out ?_); obtain ⟨p1, p2⟩ := lay (Below.refl _ _) (blk_below HP2.out hj.out); obtain ⟨v1, v2⟩ := lay (Below.refl _ _) (blk_below HV2.out hj.out); refine Aside0.mk ?_; go_simp; first | exact GrowK.UponK.val) ?_
              refine GrowK.lexD_norm (fun K hK => ?_); go_simp; refine hK _ ?_; clear hK K
              refine GrowK.lexD_do _ (by rfl) (by rfl) (by intro W hj; (with_reducible refine Aside0.out ?_); obtain ⟨p1, p2⟩ := lay (Below.refl _ _) (blk_below HP2.out hj.out); obtain ⟨v1, v2⟩ := lay (Below.refl _ _) (blk_below HV2.out hj.out); refine Aside0.mk ?_; go_simp; first | exact GrowK.UponK.val) ?_
              refine GrowK.lexD_norm (fun K hK => ?_); go_simp; refine hK _ ?_; clear hK K
              refine GrowK.lexD_make (by rfl) (by rfl) (by intro u lo hi W hj hd; (with_reducible refine Aside0.out ?_); have hlow : w2.heap.size ≤ W.heap.size := hj.out.size; obtain ⟨p1, p2⟩ := lay (Below.refl _ _) (blk_below HP2.out hj.out); obtain ⟨v1, v2⟩ := lay (Below.refl _ _) (blk_below HV2.out hj.out); refine Aside0.mk ?_; dsimp only [Grow.fillM, List.foldl]; go_simp; have cc := spec_dec W y.b (HY.out.b); refine GrowK.UponK.made hj ?_; (with_reducible refine Calls.mono cc ?_); rintro e w' ⟨v, rfl, hr, hb⟩; exact ⟨_, rfl, GrowK.GAt.mk (P := BytesP (dec y.b)) (BytesP.of hr) (by intro p hp he; simp only [List.mem_cons, List.not_mem_nil, or_false] at hp; rcases hp with rfl | rfl | rfl | rfl | rfl | rfl | rfl <;> first | (simp at he; done) | rfl), hb⟩) ?_
              refine GrowK.lexD_norm (fun K hK => ?_); go_simp; refine hK _ ?_; clear hK K
              refine GrowK.lexD_do _ (by rfl) (by rfl) (by intro W hj; (with_reducible refine Aside0.out ?_); obtain ⟨p1, p2⟩ := lay (Below.refl _ _) (blk_below HP2.out hj.out); obtain ⟨v1, v2⟩ := lay (Below.refl _ _) (blk_below HV2.out hj.out); refine Aside0.mk ?_; go_simp; first | exact GrowK.UponK.val) ?_
              refine GrowK.lexD_norm (fun K hK => ?_); go_simp; refine hK _ ?_; clear hK K
              refine GrowK.lexD_do _ (by rfl) (by rfl) (by intro W hj; (with_reducible refine Aside0.out ?_); obtain ⟨p1, p2⟩ := lay (Below.refl _ _) (blk_below HP2.out hj.out); obtain ⟨v1, v2⟩ := lay (Below.refl _ _) (blk_below HV2.out hj.out); refine Aside0.mk ?_; go_simp; first | exact GrowK.UponK.val) ?_
              refine GrowK.lexD_norm (fun K hK => ?_); go_simp; refine hK _ ?_; clear hK K
              refine GrowK.lexD_make (by rfl) (by rfl) (by intro u lo hi W hj hd; (with_reducible refine Aside0.out ?_); have hlow : w2.heap.size ≤ W.heap.size := hj.out.size; obtain ⟨p1, p2⟩ := lay (Below.refl _ _) (blk_below HP2.out hj.out); obtain ⟨v1, v2⟩ := lay (Below.refl _ _) (blk_below HV2.out hj.out); refine Aside0.mk ?_; dsimp only [Grow.fillM, List.foldl]; go_simp; have cc := spec_dec W y.t (HY.out.t); refine GrowK.UponK.made hj ?_; (with_reducible refine Calls.mono cc ?_); rintro e w' ⟨v, rfl, hr, hb⟩; exact ⟨_, rfl, GrowK.GAt.mk (P := BytesP (dec y.t)) (BytesP.of hr) (by intro p hp he; simp only [List.mem_cons, List.not_mem_nil, or_false] at hp; rcases hp with rfl | rfl | rfl | rfl | rfl | rfl | rfl <;> first | (simp at he; done) | rfl), hb⟩) ?_
              refine GrowK.lexD_norm (fun K hK => ?_); go_simp; refine hK _ ?_; clear hK K
              refine GrowK.lexD_make (by rfl) (by rfl) (by intro u lo hi W hj hd; (with_reducible refine Aside0.out ?_); have hlow : w2.heap.size ≤ W.heap.size := hj.out.size; obtain ⟨p1, p2⟩ := lay (Below.refl _ _) (blk_below HP2.out hj.out); obtain ⟨v1, v2⟩ := lay (Below.refl _ _) (blk_below HV2.out hj.out); obtain ⟨D2, d2, hu2, hC2, hT2⟩ := (show BytesP (wRoad) (u 2) (lo 2) W from ((hd 2 rfl (by kernel_rfl)).at (P := BytesP [114, 111, 97, 100]) (by simp))); obtain ⟨D5, d5, hu5, hC5, hT5⟩ := (show BytesP (dec y.a) (u 5) (lo 5) W from ((hd 5 rfl (by kernel_rfl)).at (P := BytesP (dec y.a)) (by simp))); obtain ⟨D8, d8, hu8, hC8, hT8⟩ := (show BytesP (dec y.b) (u 8) (lo 8) W from ((hd 8 rfl (by kernel_rfl)).at (P := BytesP (dec y.b)) (by simp))); obtain ⟨D11, d11, hu11, hC11, hT11⟩ := (show BytesP (dec y.t) (u 11) (lo 11) W from ((hd 11 rfl (by kernel_rfl)).at (P := BytesP (dec y.t)) (by simp))); simp only [show wRoad.length = 4 from rfl] at hu2; have HC := Aside0.mk (And.intro hC2 (And.intro hC5 (And.intro hC8 hC11))); have HT := Aside0.mk (And.intro hT2 (And.intro hT5 (And.intro hT8 hT11))); clear hC2 hC5 hC8 hC11 hT2 hT5 hT8 hT11; refine Aside0.mk ?_; dsimp only [Grow.fillM, List.foldl]; go_simp; refine GrowK.UponK.boxR hj ?_; exact GrowK.GAt.mk (P := FieldsP fl) ((by rw [HFLD.out]; exact ⟨_, _, rfl, Flds.read (Flds.below (below_alloc (Below.refl _ _) _) (Flds.cons (p := ⟨D2, 4, d2⟩) (f := wRoad) rfl ⟨HC.out.1, HT.out.1⟩ (Flds.cons (p := ⟨D5, (dec y.a).length, d5⟩) rfl ⟨HC.out.2.1, HT.out.2.1⟩ (Flds.cons (p := ⟨D8, (dec y.b).length, d8⟩) rfl ⟨HC.out.2.2.1, HT.out.2.2.1⟩ (Flds.cons (p := ⟨D11, (dec y.t).length, d11⟩) rfl ⟨HC.out.2.2.2, HT.out.2.2.2⟩ (Flds.nil _)))))) (Kd.R_reads' (flat_lit (d := kSl) rfl W W.heap.size 28 ([⟨D2, 4, d2⟩, ⟨D5, (dec y.a).length, d5⟩, ⟨D8, (dec y.b).length, d8⟩, ⟨D11, (dec y.t).length, d11⟩] : List Sl) (Nat.le_refl _) (sl_max 4 (by decide)))).2.2⟩)) (by intro p hp he; simp only [List.mem_cons, List.not_mem_nil, or_false] at hp; rcases hp with rfl | rfl | rfl | rfl | rfl | rfl | rfl <;> first | (simp at he; done) | rfl)) ?_
              refine GrowK.lexD_norm (fun K hK => ?_); go_simp; refine hK _ ?_; clear hK K
              refine GrowK.lexD_make (by rfl) (by rfl) (by intro u lo hi W hj hd; (with_reducible refine Aside0.out ?_); have hlow : w2.heap.size ≤ W.heap.size := hj.out.size; obtain ⟨p1, p2⟩ := lay (Below.refl _ _) (blk_below HP2.out hj.out); obtain ⟨v1, v2⟩ := lay (Below.refl _ _) (blk_below HV2.out hj.out); obtain ⟨B12, b12, hu12, hF12⟩ := (show FieldsP fl (u 12) (lo 12) W from ((hd 12 rfl (by kernel_rfl)).at (P := FieldsP fl) (by simp))); have HF12 := Aside0.mk hF12; clear hF12; refine Aside0.mk ?_; dsimp only [Grow.fillM, List.foldl]; go_simp; have cc := spec_join W B12 b12 fl HF12.out HFL2.out.2 HFL2.out.1; refine GrowK.UponK.made hj ?_; (with_reducible refine Calls.mono cc ?_); rintro e w' ⟨v, rfl, hr, hb⟩; exact ⟨_, rfl, GrowK.GAt.mk (P := BytesP ln) ((by rw [HLN.out]; exact BytesP.of hr)) (by intro p hp he; simp only [List.mem_cons, List.not_mem_nil, or_false] at hp; rcases hp with rfl | rfl | rfl | rfl | rfl | rfl | rfl <;> first | (simp at he; done) | rfl), hb⟩) ?_
              refine GrowK.lexD_norm (fun K hK => ?_); go_simp; refine hK _ ?_; clear hK K
              refine GrowK.lexD_nil (fun u lo hi w3 hj hG hord => ?_)
              obtain ⟨D13, d13, hu13, hC13, _⟩ := (show BytesP ln (u 13) (lo 13) w3 from ((hG 13 rfl).1).at (by simp))
              clear hG hord
              dsimp only [List.foldl]
              rw [hu13]
              clear hu13
              have HJ := Aside0.mk hC13; clear hC13
              refine GrowK.wpl_norm (fun K hK => ?_); go_simp; refine hK _ ?_; clear hK K
              have hb := hj.out; clear hj
              have HB3 := Aside0.mk (bel_call HB2.out hb); have HP3 := Aside0.mk (blk_below HP2.out hb); have HV3 := Aside0.mk (blk_below HV2.out hb); have HO3 := Aside0.mk (Kd.R_below HO2.out hb); have HSZ3 := Aside0.mk (Nat.le_trans HSZ2.out hb.size); clear hb
              go_wp2_with (refine Kd.flat_append_row kByte rfl (w0 := W0) W0.heap.size rfl _ _ 28 5 0 1 rfl Tryd.underlying28 (by kernel_rfl) (by decide) (by decide) _ us ln _ _ _ rfl rfl (HO3.out) (HJ.out) (HB3.out) (HB3.out).size (by have h1 := HLL.out; have h2 := HLL2.out; omega) ?_; intro v9 w9 hr hb _ _; have HO9 := Aside0.mk hr; have HB9 := Aside0.mk hb; clear hr hb)
              go_roundg (x.rs.length + 1 - (j + 1))
              case measure => omega
              case rel => exact ⟨j + 1, rfl, by omega, by go_num, ⟨by rw [HUU.out]; exact HO9.out⟩, HB9⟩
            · have hje : j = x.rs.length := by omega
              subst hje
              have HLX := HO; have HBX := HBj; clear HO HBj
              rw [List.take_length] at HLX
              obtain ⟨p1, p2⟩ := lay (Below.refl _ _) (blk_below HP.out HBX.out)
              go_wp2
              go_ret
              exact ⟨_, rfl, Kd.R_lower HLX.out HW.out.size, bel_call HW.out HBX.out⟩
set_option maxRecDepth 100000 in
set_option maxHeartbeats 2000000 in
theorem spec_PrintInst (v : Value) (x : Inst) (hr : ReadInst w v x) : Calls Tryd.prog 5 #[v] w fun e w' => ∃ u, e = .returned u ∧ kByte.R 5 w' w.heap.size (fun _ => True) u x.print ∧ Below w.heap.size w w' := by
  have HX := Aside0.mk hr
  obtain ⟨A0, c0, A1, c1, A2, c2, rfl, r0, r1, r2⟩ := hr
  clear r0 r1 r2
  have HB0 := Aside0.mk (below_alloc (Below.refl w.heap.size w) (.cells #[.slice A0 x.vs.length c0, .slice A1 x.qs.length c1, .slice A2 x.rs.length c2] 34))
  have HC0 := Aside0.mk (al_new w (.cells #[.slice A0 x.vs.length c0, .slice A1 x.qs.length c1, .slice A2 x.rs.length c2] 34))
  go_enter Tryd.func5, Tryd.ntmps5
  go_wp2_with fail
  go_at_call 16
  refine (spec_validInst _ _ x (HX.out.below HB0.out)).mono ?_
  rintro e w1 ⟨rfl, hb⟩
  have HB1 := Aside0.mk (bel_call HB0.out hb); have HC1 := Aside0.mk (blk_below HC0.out hb); clear hb HB0 HC0
  cases hv : x.valid with
  | false =>
    have HV := Aside0.mk (show x.print = [] by unfold Inst.print; rw [hv]; rfl); clear hv
    have HL := Aside0.mk (flat_lit (d := kByte) rfl w1 w.heap.size 5 [] HB1.out.size (Nat.zero_le _))
    go_wp2
    go_ret
    exact ⟨_, rfl, by rw [HV.out]; exact HL.out, below_alloc HB1.out _⟩
  | true =>
    have HF := Aside0.mk (Inst.fit_of hv)
    have HV := Aside0.mk (show x.print = x.text by unfold Inst.print; rw [hv]; rfl); clear hv
    obtain ⟨b1, b2⟩ := lay (Below.refl _ _) HC1.out
    go_wp2_with fail
    clear b1 b2
    go_at_call 17
    refine (spec_printRaw _ _ x (HX.out.below HB1.out) HF.out).mono ?_
    rintro e w2 ⟨u, rfl, hr, hb⟩
    have HR := Aside0.mk (Kd.R_lower hr HB1.out.size); have HB2 := Aside0.mk (bel_call HB1.out hb); clear hr hb
    go_wp2
    go_ret
    exact ⟨_, rfl, by rw [HV.out]; exact HR.out, HB2.out⟩
end
end Go.Proofs.YteefopaoodfapaaDoor.L1
