/- The reference's draws: the instance that is printed. The law's comparison of instances, over two readings of one. A line, as the program reads it: kind 0. -/
import Derived.Test.YtbccaabaplbmhaaGreatDoorQT12
import Derived.Test.YtbccaabaplbmhaaGreatDoorQT9
import Derived.Deep.Cut
import Derived.Deep.CutRange
namespace Go.Proofs.YtbccaabaplbmhaaGreatDoor.L1
open Go.RowKit Go.Proofs.YtbccaabaplbmhaaGreatDoorW.PrintWords Go.Proofs.YtbccaabaplbmhaaGreatDoor.B
set_option linter.unusedVariables false
set_option linter.unusedSimpArgs false
attribute [local go_sem] mk_cell mk_frozen
theorem roadsD_len (bs : List Int) (n : Int) : ∀ (k : Nat) (a b : Int) (l : List Road) (s : Cu), (roadsD bs n k a b l s).1.length ≤ l.length + k
  | 0, a, b, l, s => Nat.le_refl _
  | k + 1, a, b, l, s => by
    unfold roadsD bnd
    dsimp only
    split
    · have := roadsD_len bs n k (wrapD n a (wrap64 (wrap64 (b + 1) + (belowD bs n s).1))).1 (wrapD n a (wrap64 (wrap64 (b + 1) + (belowD bs n s).1))).2 (l ++ [⟨(wrapD n a (wrap64 (wrap64 (b + 1) + (belowD bs n s).1))).1, (wrapD n a (wrap64 (wrap64 (b + 1) + (belowD bs n s).1))).2, (belowD bs 40 (belowD bs n s).2).1⟩]) (belowD bs 40 (belowD bs n s).2).2
      rw [List.length_append, List.length_singleton] at this
      omega
    · have := roadsD_len bs n k (wrapD n a (wrap64 (wrap64 (b + 1) + (belowD bs n s).1))).1 (wrapD n a (wrap64 (wrap64 (b + 1) + (belowD bs n s).1))).2 l (belowD bs n s).2
      omega
theorem lim0D_len (bs : List Int) (n : Int) (vs : List Veh) (s : Cu) : (lim0D bs n vs s).1.length = vs.length := by
  unfold lim0D bnd
  dsimp only
  split
  · exact List.length_set ..
  · rfl
theorem lim1D_len (bs : List Int) (n : Int) (qs : List Req) (s : Cu) : (lim1D bs n qs s).1.length = qs.length := by
  unfold lim1D bnd
  dsimp only
  split
  · exact List.length_set ..
  · rfl
theorem someRoadsD_len (bs : List Int) (n : Int) (s : Cu) : (someRoadsD bs n s).1.length ≤ 4 := by
  unfold someRoadsD bnd
  dsimp only
  split
  · have h1 := roadsD_len bs n (rangeD bs 1 4 (twoD bs n s).2).1.toNat 0 (-1) [] (rangeD bs 1 4 (twoD bs n s).2).2
    have h2 := rangeD_bd bs 1 4 (twoD bs n s).2 (by decide) (by decide) (by decide) (by decide)
    rw [List.length_nil] at h1
    omega
  · exact Nat.zero_le _
theorem zeroD_le (b : Bool) (n : Int) (m : Nat) (h : 0 ≤ n ∧ n ≤ m) : (zeroD b n).toNat ≤ m := by unfold zeroD; split <;> omega
theorem instD_len (bs : List Int) (rs : Int) (s : Cu) (h : 4 ≤ rs ∧ rs ≤ 6) : (instD bs rs s).1.vs.length ≤ 100 ∧ (instD bs rs s).1.qs.length ≤ 100 ∧ (instD bs rs s).1.rs.length ≤ 97 := by
  unfold instD
  have h1 := rangeD_bd bs 1 3 s (by decide) (by decide) (by decide) (by decide)
  generalize rangeD bs 1 3 s = r at h1 ⊢
  obtain ⟨nv, s1⟩ := r
  rw [bnd_mk]
  generalize onceD bs 2 s1 = r
  obtain ⟨b, s2⟩ := r
  rw [bnd_mk]
  have h2 : 0 ≤ (nrD bs b rs s2).1 ∧ (nrD bs b rs s2).1 ≤ 6 := by
    unfold nrD
    split
    · have := rangeD_bd bs 1 rs s2 (by decide) (by omega) (by omega) (by decide); omega
    · show 0 ≤ rs ∧ rs ≤ 6; omega
  generalize nrD bs b rs s2 = r at h2 ⊢
  obtain ⟨nr, s3⟩ := r
  rw [bnd_mk]
  generalize onceD bs 25 s3 = r
  obtain ⟨b2, s4⟩ := r
  rw [bnd_mk]
  generalize onceD bs 25 s4 = r
  obtain ⟨b3, s5⟩ := r
  rw [bnd_mk]
  have z1 := zeroD_le b2 nv 3 (by simp only at h1; omega)
  have z2 := zeroD_le b3 nr 6 (by simp only at h2; omega)
  have l1 := manyD_len (vehD bs) (zeroD b2 nv).toNat [] s5
  generalize manyD (vehD bs) (zeroD b2 nv).toNat [] s5 = r at l1 ⊢
  obtain ⟨vs, s6⟩ := r
  rw [bnd_mk]
  have l2 := manyD_len (reqD bs) (zeroD b3 nr).toNat [] s6
  generalize manyD (reqD bs) (zeroD b3 nr).toNat [] s6 = r at l2 ⊢
  obtain ⟨qs, s7⟩ := r
  rw [bnd_mk]
  have l3 := someRoadsD_len bs (zeroD b2 nv + 2 * zeroD b3 nr) s7
  generalize someRoadsD bs (zeroD b2 nv + 2 * zeroD b3 nr) s7 = r at l3 ⊢
  obtain ⟨ro, s8⟩ := r
  rw [bnd_mk]
  have l4 := lim0D_len bs (zeroD b2 nv) vs s8
  generalize lim0D bs (zeroD b2 nv) vs s8 = r at l4 ⊢
  obtain ⟨vs', s9⟩ := r
  rw [bnd_mk]
  have l5 := lim1D_len bs (zeroD b3 nr) qs s9
  generalize lim1D bs (zeroD b3 nr) qs s9 = r at l5 ⊢
  obtain ⟨qs', s10⟩ := r
  rw [bnd_mk]
  simp only [List.length_nil] at *
  omega
theorem spoilD_len (bs : List Int) (x : Inst) (s : Cu) : (spoilD bs x s).1.vs.length = x.vs.length ∧ (spoilD bs x s).1.qs.length = x.qs.length ∧ (spoilD bs x s).1.rs.length ≤ x.rs.length + 3 := by
  unfold spoilD bnd
  refine ⟨sp0_len .., sp1_len .., ?_⟩
  show (sp11 _ (sp10 _ (sp9 _ _ (sp8 _ _ x.rs)))).length ≤ _
  have h8 : ∀ k n (r : List Road), (sp8 k n r).length ≤ r.length + 1 := fun k n r => by unfold sp8; split; rw [List.length_append]; exact Nat.le_refl _; omega
  have h9 : ∀ k n (r : List Road), (sp9 k n r).length ≤ r.length + 1 := fun k n r => by unfold sp9; split; rw [List.length_append]; exact Nat.le_refl _; omega
  have h10 : ∀ k (r : List Road), (sp10 k r).length ≤ r.length + 1 := fun k r => by unfold sp10; split; rw [List.length_append]; exact Nat.le_refl _; omega
  have h11 : ∀ k (r : List Road), (sp11 k r).length = r.length := fun k r => by unfold sp11; split; exact List.length_set ..; rfl
  rw [h11]
  refine Nat.le_trans (h10 _ _) ?_
  have := h9 (belowD bs 12 s).1 (((sp0 bs (belowD bs 12 s).1 x.vs (belowD bs 12 s).2).1.length : Int) + 2 * ((sp1 bs (belowD bs 12 s).1 x.qs (sp0 bs (belowD bs 12 s).1 x.vs (belowD bs 12 s).2).2).1.length : Int)) (sp8 (belowD bs 12 s).1 (((sp0 bs (belowD bs 12 s).1 x.vs (belowD bs 12 s).2).1.length : Int) + 2 * ((sp1 bs (belowD bs 12 s).1 x.qs (sp0 bs (belowD bs 12 s).1 x.vs (belowD bs 12 s).2).2).1.length : Int)) x.rs)
  have := h8 (belowD bs 12 s).1 (((sp0 bs (belowD bs 12 s).1 x.vs (belowD bs 12 s).2).1.length : Int) + 2 * ((sp1 bs (belowD bs 12 s).1 x.qs (sp0 bs (belowD bs 12 s).1 x.vs (belowD bs 12 s).2).2).1.length : Int)) x.rs
  omega
/-- The instance that is drawn. -/
def drawD (bs : List Int) : Inst := (bnd (instD bs (sizeD bs.length) (newD bs)) fun x s => maybeD bs x s).1
theorem drawD_len (bs : List Int) : (drawD bs).vs.length ≤ 100 ∧ (drawD bs).qs.length ≤ 100 ∧ (drawD bs).rs.length ≤ 100 := by
  unfold drawD bnd maybeD bnd
  have h := instD_len bs (sizeD bs.length) (newD bs) (sizeD_bd _)
  have h2 := spoilD_len bs (instD bs (sizeD bs.length) (newD bs)).1 (onceD bs 6 (instD bs (sizeD bs.length) (newD bs)).2).2
  dsimp only
  split
  · omega
  · exact ⟨h.1, h.2.1, Nat.le_trans h.2.2 (by decide)⟩
section
variable (w : World)
set_option maxRecDepth 1000000 in
set_option maxHeartbeats 16000000 in
theorem spec_draw (A : Option Addr) (c : Nat) (bs : List Int) (hr : kByte.C w A bs.length bs) (hl : bs.length ≤ 1048576) : Calls Tryz.prog 4 #[.slice A bs.length c] w fun e w' => ∃ v0 v1 v2, e = .returned (.agg #[v0, v1, v2]) ∧ Below w.heap.size w w' ∧ kVeh.R 45 w' w.heap.size (fun _ => True) v0 (drawD bs).vs ∧ kReq.R 48 w' w.heap.size (fun _ => True) v1 (drawD bs).qs ∧ kRoad.R 51 w' w.heap.size (fun _ => True) v2 (drawD bs).rs := by
  have HR := Aside0.mk (Kd.C_below hr (below_alloc (Below.refl w.heap.size w) (.cells #[.slice none 0 0, .slice none 0 0, .slice none 0 0] 27)))
  have HB0 := Aside0.mk (below_alloc (Below.refl w.heap.size w) (.cells #[.slice none 0 0, .slice none 0 0, .slice none 0 0] 27))
  have HO0 := Aside0.mk (al_new w (.cells #[.slice none 0 0, .slice none 0 0, .slice none 0 0] 27 (0, 0)))
  have HZ0 := Aside0.mk (al_size w (.cells #[.slice none 0 0, .slice none 0 0, .slice none 0 0] 27))
  have HSZ := Aside0.mk (sizeD_bd bs.length)
  have HLN := Aside0.mk (instD_len bs (sizeD bs.length) (newD bs) HSZ.out)
  obtain ⟨res, hres⟩ : ∃ res, (bnd (instD bs (sizeD bs.length) (newD bs)) fun x s => maybeD bs x s) = res := ⟨_, rfl⟩
  have hdd : drawD bs = res.1 := congrArg Prod.fst hres
  rw [hdd]
  have HD := Aside0.mk hres
  clear hr hres hdd
  go_enter Tryz.func4, Tryz.ntmps4
  go_wp2_with fail
  generalize w.alloc (.cells #[.slice none 0 0, .slice none 0 0, .slice none 0 0] 27) = w1 at HR HB0 HO0 HZ0 ⊢
  go_at_call 9
  refine (spec_new _ A c bs HR.out hl).mono ?_
  rintro e w2 ⟨g, rfl, hc, hb⟩
  have HC := Aside0.mk hc; have HB2 := Aside0.mk hb; clear hc hb
  go_wp2_with fail
  go_at_call 11
  refine (spec_size _ A c bs.length hl).mono ?_
  rintro e w' ⟨rfl, rfl⟩
  go_wp2_with fail
  go_at_call 10
  refine (spec_inst _ w1 g A c bs (newD bs) (sizeD bs.length) HSZ.out HC.out).mono ?_
  rintro e w3 ⟨v0, v1, v2, rfl, ha, r0, r1, r2⟩
  generalize instD bs (sizeD bs.length) (newD bs) = r at HD HLN ha r0 r1 r2
  obtain ⟨x, s1⟩ := r
  rw [bnd_mk] at HD
  obtain ⟨A0, c0, rfl⟩ := Kd.R_slice r0
  obtain ⟨A1, c1, rfl⟩ := Kd.R_slice r1
  obtain ⟨A2, c2, rfl⟩ := Kd.R_slice r2
  have HA := Aside0.mk ha; have HQ := Aside0.mk (And.intro r0 (And.intro r1 r2)); clear ha r0 r1 r2
  go_wp2_with fail
  go_at_call 12
  refine (spec_maybe _ w1 w2 g A c bs s1 x _ _ _ (HA.out.1.on (below_alloc (Below.refl _ _) _)) (HA.out.2.box) HC.out.lt HB2.out.size (Kd.R_alloc HQ.out.1 _) (Kd.R_alloc HQ.out.2.1 _) (Kd.R_alloc HQ.out.2.2 _) HLN.out.1 HLN.out.2.1 HLN.out.2.2).mono ?_
  rintro e w5 ⟨u0, u1, u2, rfl, ha, q0, q1, q2⟩
  rw [HD.out] at ha q0 q1 q2
  obtain ⟨B0, d0, rfl⟩ := Kd.R_slice q0
  obtain ⟨B1, d1, rfl⟩ := Kd.R_slice q1
  obtain ⟨B2, d2, rfl⟩ := Kd.R_slice q2
  have HG := Aside0.mk (show g ≠ w.heap.size by have := HC.out.ge; have := HZ0.out; omega)
  have HO5 := Aside0.mk (tch_in ha.2 (fun e => HG.out e.symm) (blk_below HO0.out HB2.out))
  have HB5 := Aside0.mk (bel_call HB0.out ha.1.below)
  have HS5 := Aside0.mk (show w.heap.size ≤ w2.heap.size by have := HB2.out.size; have := HZ0.out; omega)
  have HQ5 := Aside0.mk (And.intro q0 (And.intro q1 q2)); clear ha q0 q1 q2 HQ HA
  obtain ⟨o1, o2⟩ := lay (Below.refl _ _) HO5.out
  go_wp2
  clear o1 o2
  have hT : Tch (fun k => k = w.heap.size) w5 (((w5.setCell ⟨w.heap.size, 0, none⟩ (.slice B0 res.1.vs.length d0)).setCell ⟨w.heap.size, 1, none⟩ (.slice B1 res.1.qs.length d1)).setCell ⟨w.heap.size, 2, none⟩ (.slice B2 res.1.rs.length d2)) := ((Tch.set (S := fun k => k = w.heap.size) rfl).trans (Tch.set rfl)).trans (Tch.set rfl)
  exact bodyPost_ret (results_cell Tryz.results4 rfl (set3h HO5.out _ _ _) Tryz.underlying27 rfl (by kernel_rfl)) rfl ⟨_, _, _, rfl, bel_set (bel_set (bel_set HB5.out (Nat.le_refl _) _) (Nat.le_refl _) _) (Nat.le_refl _) _, Kd.R_lower (R_tch HQ5.out.1 hT HO5.out (by decide)) HS5.out, Kd.R_lower (R_tch HQ5.out.2.1 hT HO5.out (by decide)) HS5.out, Kd.R_lower (R_tch HQ5.out.2.2 hT HO5.out (by decide)) HS5.out⟩
end
end Go.Proofs.YtbccaabaplbmhaaGreatDoor.L1
namespace Go.Proofs.YtbccaabaplbmhaaGreatDoor.L1
open Go.RowKit Go.Proofs.YtbccaabaplbmhaaGreatDoorW.PrintWords Go.Proofs.YtbccaabaplbmhaaGreatDoor.B
set_option linter.unusedVariables false
set_option linter.unusedSimpArgs false
attribute [local go_sem] mk_cell mk_frozen
/-- Two readings, their boxes. -/
structure TwoI (w : World) (A0 A1 A2 B0 B1 B2 : Option Addr) (c0 c1 c2 d0 d1 d2 : Nat) (x : Inst) (W : World) : Prop where
  ba : W.heap[w.heap.size]? = some (.cells #[.slice A0 x.vs.length c0, .slice A1 x.qs.length c1, .slice A2 x.rs.length c2] 27 (0, 0))
  bb : W.heap[w.heap.size + 1]? = some (.cells #[.slice B0 x.vs.length d0, .slice B1 x.qs.length d1, .slice B2 x.rs.length d2] 27 (0, 0))
  a0 : kVeh.C W A0 x.vs.length x.vs
  a1 : kReq.C W A1 x.qs.length x.qs
  a2 : kRoad.C W A2 x.rs.length x.rs
  b0 : kVeh.C W B0 x.vs.length x.vs
  b1 : kReq.C W B1 x.qs.length x.qs
  b2 : kRoad.C W B2 x.rs.length x.rs
  below : Below w.heap.size w W
theorem TwoI.drew {w : World} {A0 A1 A2 B0 B1 B2 : Option Addr} {c0 c1 c2 d0 d1 d2 : Nat} {x : Inst} {W : World} (h : TwoI w A0 A1 A2 B0 B1 B2 c0 c1 c2 d0 d1 d2 x W) (n : Nat) : TwoI w A0 A1 A2 B0 B1 B2 c0 c1 c2 d0 d1 d2 x (W.drewN n) := by
  have hb := pw_below_drewN (Below.refl W.heap.size W) n
  exact ⟨blk_below h.ba hb, blk_below h.bb hb, Kd.C_below h.a0 hb, Kd.C_below h.a1 hb, Kd.C_below h.a2 hb, Kd.C_below h.b0 hb, Kd.C_below h.b1 hb, Kd.C_below h.b2 hb, bel_call h.below hb⟩
section
variable (w : World)
set_option maxRecDepth 1000000 in
set_option maxHeartbeats 16000000 in
theorem law_inst (A0 A1 A2 B0 B1 B2 : Option Addr) (c0 c1 c2 d0 d1 d2 : Nat) (x : Inst) (n0 : x.vs.length ≤ 1048576) (n1 : x.qs.length ≤ 1048576) (n2 : x.rs.length ≤ 1048576) (a0 : kVeh.C w A0 x.vs.length x.vs) (a1 : kReq.C w A1 x.qs.length x.qs) (a2 : kRoad.C w A2 x.rs.length x.rs) (b0 : kVeh.C w B0 x.vs.length x.vs) (b1 : kReq.C w B1 x.qs.length x.qs) (b2 : kRoad.C w B2 x.rs.length x.rs) :
    Calls Tryz.prog 8 #[.agg #[.slice A0 x.vs.length c0, .slice A1 x.qs.length c1, .slice A2 x.rs.length c2], .agg #[.slice B0 x.vs.length d0, .slice B1 x.qs.length d1, .slice B2 x.rs.length d2]] w fun e w' => e = .returned (.bool true) ∧ Below w.heap.size w w' := by
  have HB := below_alloc (below_alloc (Below.refl w.heap.size w) (.cells #[.slice A0 x.vs.length c0, .slice A1 x.qs.length c1, .slice A2 x.rs.length c2] 27)) (.cells #[.slice B0 x.vs.length d0, .slice B1 x.qs.length d1, .slice B2 x.rs.length d2] 27)
  have H0 := Aside0.mk (show TwoI w A0 A1 A2 B0 B1 B2 c0 c1 c2 d0 d1 d2 x ((w.alloc (.cells #[.slice A0 x.vs.length c0, .slice A1 x.qs.length c1, .slice A2 x.rs.length c2] 27)).alloc (.cells #[.slice B0 x.vs.length d0, .slice B1 x.qs.length d1, .slice B2 x.rs.length d2] 27)) from
    ⟨blk_box (al_new w _) _, by have h := al_new (w.alloc (.cells #[.slice A0 x.vs.length c0, .slice A1 x.qs.length c1, .slice A2 x.rs.length c2] 27)) (.cells #[.slice B0 x.vs.length d0, .slice B1 x.qs.length d1, .slice B2 x.rs.length d2] 27); rw [al_size] at h; exact h, Kd.C_below a0 HB, Kd.C_below a1 HB, Kd.C_below a2 HB, Kd.C_below b0 HB, Kd.C_below b1 HB, Kd.C_below b2 HB, HB⟩)
  have HN := Aside0.mk (And.intro n0 (And.intro n1 n2))
  clear a0 a1 a2 b0 b1 b2 HB n0 n1 n2
  have p0 : ((x.vs.length : Int) == (x.vs.length : Int)) = true := beq_self_eq_true _
  have p1 : ((x.qs.length : Int) == (x.qs.length : Int)) = true := beq_self_eq_true _
  have p2 : ((x.rs.length : Int) == (x.rs.length : Int)) = true := beq_self_eq_true _
  go_enter Tryz.func8, Tryz.ntmps8
  go_upto_region 3 with fail
  generalize (w.alloc (.cells #[.slice A0 x.vs.length c0, .slice A1 x.qs.length c1, .slice A2 x.rs.length c2] 27)).alloc (.cells #[.slice B0 x.vs.length d0, .slice B1 x.qs.length d1, .slice B2 x.rs.length d2] 27) = w1 at H0 ⊢
  obtain ⟨i1, i2⟩ := lay (Below.refl _ _) H0.out.ba
  obtain ⟨j1, j2⟩ := lay (Below.refl _ _) H0.out.bb
  go_wp2_with fail
  clear i1 i2 j1 j2
  go_loopg [5] (x.vs.length + 1) (fun q v wr => ∃ (k : Nat), q = x.vs.length + 1 - k ∧ k ≤ x.vs.length ∧ v = .int .i64 k ∧ Aside0 (TwoI w A0 A1 A2 B0 B1 B2 c0 c1 c2 d0 d1 d2 x wr))
  case atStart => exact ⟨0, by omega, by omega, rfl, H0⟩
  case round =>
    obtain ⟨k, rfl, hk, rfl, HT⟩ := hrel
    rename World => w2
    by_cases hlt : k < x.vs.length
    · obtain ⟨y, hy⟩ : ∃ y, x.vs.getD k zV = y := ⟨_, rfl⟩
      have HY := Aside0.mk hy; clear hy
      obtain ⟨ad, ea, _, _⟩ := Kd.flat_cells (d := kVeh) rfl HT.out.a0 zV k hlt
      obtain ⟨ad', eb, _, _⟩ := Kd.flat_cells (d := kVeh) rfl HT.out.b0 zV k hlt
      have EA := Aside0.mk ea; have EB := Aside0.mk eb; clear ea eb
      have hcm : 0 ≤ (k : Int) ∧ (k : Int) < (x.vs.length : Int) := by omega
      have q0 : wrap64 ((k : Int) + 1) = (k : Int) + 1 := IntWalk.wrap64_in _ (by have := HN.out; omega)
      obtain ⟨i1, i2⟩ := lay (Below.refl _ _) HT.out.ba
      have d0 : decide ((k : Int) < (x.vs.length : Int)) = true := decide_eq_true (by omega)
      go_upto_region 6 with fail
      clear i1 i2 d0
      refine Flo.wp_region_float [false, false, false, false, false, false, false, false, false, false, true] (fun wx => TwoI w A0 A1 A2 B0 B1 B2 c0 c1 c2 d0 d1 d2 x wx) (by kernel_rfl) (by kernel_rfl) ?_
      repeat (first
        | (refine Flo.lexE_do _ (by intro W hj; obtain ⟨i1, i2⟩ := lay (Below.refl _ _) hj.ba; obtain ⟨j1, j2⟩ := lay (Below.refl _ _) hj.bb; obtain ⟨ad, e0, h0, h1⟩ := Kd.flat_cells (d := kVeh) rfl hj.a0 zV k hlt; obtain ⟨ad', e0', g0, g1⟩ := Kd.flat_cells (d := kVeh) rfl hj.b0 zV k hlt; cases (e0.symm.trans EA.out); cases (e0'.symm.trans EB.out); rw [HY.out] at h0 h1 g0 g1; have c0 := h0 _ rfl; have d0 := g0 _ rfl; have c1 := h1 0 _ rfl; have c2 := h1 1 _ rfl; have c3 := h1 2 _ rfl; have c4 := h1 3 _ rfl; have c5 := h1 4 _ rfl; have c6 := h1 5 _ rfl; have d1 := g1 0 _ rfl; have d2 := g1 1 _ rfl; have d3 := g1 2 _ rfl; have d4 := g1 3 _ rfl; have d5 := g1 4 _ rfl; have d6 := g1 5 _ rfl; clear h0 h1 g0 g1; go_simp; exact Flo.UponE.val) ?_; refine Flo.lexE_norm (fun K hK => ?_); go_simp; refine hK _ ?_; clear hK K)
        | (refine Flo.lexE_pass ?_; refine Flo.lexE_norm (fun K hK => ?_); go_simp; refine hK _ ?_; clear hK K))
      refine Flo.lexE_nil ?_
      dsimp only [Flo.chainOf]
      have HT' := Aside0.mk (HT.out.drew 1); clear HT
      refine Flo.chain_do HT'.out ?_
      go_simp
      refine Flo.UponC.val ?_
      refine Flo.chain_nil ?_
      go_wp2
      go_roundg (x.vs.length + 1 - (k + 1))
      case measure => omega
      case rel => exact ⟨k + 1, rfl, hlt, by go_num, HT'⟩
    · have hke : k = x.vs.length := by omega
      subst hke
      have d0 : decide ((x.vs.length : Int) < (x.vs.length : Int)) = false := decide_eq_false (by omega)
      obtain ⟨i1, i2⟩ := lay (Below.refl _ _) HT.out.ba
      go_wp2_with fail
      clear d0 i1 i2
      have HT0 := HT; clear HT
      go_loopg [6] (x.qs.length + 1) (fun q v wr => ∃ (k : Nat), q = x.qs.length + 1 - k ∧ k ≤ x.qs.length ∧ v = .int .i64 k ∧ Aside0 (TwoI w A0 A1 A2 B0 B1 B2 c0 c1 c2 d0 d1 d2 x wr))
      case atStart => exact ⟨0, by omega, by omega, rfl, HT0⟩
      case round =>
        obtain ⟨k, rfl, hk, rfl, HT⟩ := hrel
        rename World => w2
        by_cases hlt : k < x.qs.length
        · obtain ⟨y, hy⟩ : ∃ y, x.qs.getD k zQ = y := ⟨_, rfl⟩
          have HY := Aside0.mk hy; clear hy
          obtain ⟨ad, ea, _, _⟩ := Kd.flat_cells (d := kReq) rfl HT.out.a1 zQ k hlt
          obtain ⟨ad', eb, _, _⟩ := Kd.flat_cells (d := kReq) rfl HT.out.b1 zQ k hlt
          have EA := Aside0.mk ea; have EB := Aside0.mk eb; clear ea eb
          have hcm : 0 ≤ (k : Int) ∧ (k : Int) < (x.qs.length : Int) := by omega
          have q0 : wrap64 ((k : Int) + 1) = (k : Int) + 1 := IntWalk.wrap64_in _ (by have := HN.out; omega)
          obtain ⟨i1, i2⟩ := lay (Below.refl _ _) HT.out.ba
          have d0 : decide ((k : Int) < (x.qs.length : Int)) = true := decide_eq_true (by omega)
          go_upto_region 11 with fail
          clear i1 i2 d0
          refine Flo.wp_region_float [false, false, false, false, false, false, false, false, false, false, true] (fun wx => TwoI w A0 A1 A2 B0 B1 B2 c0 c1 c2 d0 d1 d2 x wx) (by kernel_rfl) (by kernel_rfl) ?_
          repeat (first
            | (refine Flo.lexE_do _ (by intro W hj; obtain ⟨i1, i2⟩ := lay (Below.refl _ _) hj.ba; obtain ⟨j1, j2⟩ := lay (Below.refl _ _) hj.bb; obtain ⟨ad, e0, h0, h1⟩ := Kd.flat_cells (d := kReq) rfl hj.a1 zQ k hlt; obtain ⟨ad', e0', g0, g1⟩ := Kd.flat_cells (d := kReq) rfl hj.b1 zQ k hlt; cases (e0.symm.trans EA.out); cases (e0'.symm.trans EB.out); rw [HY.out] at h0 h1 g0 g1; have c0 := h0 _ rfl; have d0 := g0 _ rfl; have c1 := h1 0 _ rfl; have c2 := h1 1 _ rfl; have c3 := h1 2 _ rfl; have c4 := h1 3 _ rfl; have c5 := h1 4 _ rfl; have c6 := h1 5 _ rfl; have c7 := h1 6 _ rfl; have c8 := h1 7 _ rfl; have c9 := h1 8 _ rfl; have c10 := h1 9 _ rfl; have c11 := h1 10 _ rfl; have d1 := g1 0 _ rfl; have d2 := g1 1 _ rfl; have d3 := g1 2 _ rfl; have d4 := g1 3 _ rfl; have d5 := g1 4 _ rfl; have d6 := g1 5 _ rfl; have d7 := g1 6 _ rfl; have d8 := g1 7 _ rfl; have d9 := g1 8 _ rfl; have d10 := g1 9 _ rfl; have d11 := g1 10 _ rfl; clear h0 h1 g0 g1; go_simp; exact Flo.UponE.val) ?_; refine Flo.lexE_norm (fun K hK => ?_); go_simp; refine hK _ ?_; clear hK K)
            | (refine Flo.lexE_pass ?_; refine Flo.lexE_norm (fun K hK => ?_); go_simp; refine hK _ ?_; clear hK K))
          refine Flo.lexE_nil ?_
          dsimp only [Flo.chainOf]
          have HT' := Aside0.mk (HT.out.drew 1); clear HT
          refine Flo.chain_do HT'.out ?_
          go_simp
          refine Flo.UponC.val ?_
          refine Flo.chain_nil ?_
          go_wp2
          go_roundg (x.qs.length + 1 - (k + 1))
          case measure => omega
          case rel => exact ⟨k + 1, rfl, hlt, by go_num, HT'⟩
        · have hke : k = x.qs.length := by omega
          subst hke
          have d0 : decide ((x.qs.length : Int) < (x.qs.length : Int)) = false := decide_eq_false (by omega)
          obtain ⟨i1, i2⟩ := lay (Below.refl _ _) HT.out.ba
          go_wp2_with fail
          clear d0 i1 i2
          have HT1 := HT; clear HT HT0
          go_loopg [7] (x.rs.length + 1) (fun q v wr => ∃ (k : Nat), q = x.rs.length + 1 - k ∧ k ≤ x.rs.length ∧ v = .int .i64 k ∧ Aside0 (TwoI w A0 A1 A2 B0 B1 B2 c0 c1 c2 d0 d1 d2 x wr))
          case atStart => exact ⟨0, by omega, by omega, rfl, HT1⟩
          case round =>
            obtain ⟨k, rfl, hk, rfl, HT⟩ := hrel
            rename World => w2
            by_cases hlt : k < x.rs.length
            · obtain ⟨y, hy⟩ : ∃ y, x.rs.getD k zR = y := ⟨_, rfl⟩
              have HY := Aside0.mk hy; clear hy
              obtain ⟨ad, ea, _, _⟩ := Kd.flat_cells (d := kRoad) rfl HT.out.a2 zR k hlt
              obtain ⟨ad', eb, _, _⟩ := Kd.flat_cells (d := kRoad) rfl HT.out.b2 zR k hlt
              have EA := Aside0.mk ea; have EB := Aside0.mk eb; clear ea eb
              have hcm : 0 ≤ (k : Int) ∧ (k : Int) < (x.rs.length : Int) := by omega
              have q0 : wrap64 ((k : Int) + 1) = (k : Int) + 1 := IntWalk.wrap64_in _ (by have := HN.out; omega)
              obtain ⟨i1, i2⟩ := lay (Below.refl _ _) HT.out.ba
              have d0 : decide ((k : Int) < (x.rs.length : Int)) = true := decide_eq_true (by omega)
              go_upto_region 16 with fail
              clear i1 i2 d0
              refine Flo.wp_region_float [false, false, false, false, false, false, false, false, false, false, true] (fun wx => TwoI w A0 A1 A2 B0 B1 B2 c0 c1 c2 d0 d1 d2 x wx) (by kernel_rfl) (by kernel_rfl) ?_
              repeat (first
                | (refine Flo.lexE_do _ (by intro W hj; obtain ⟨i1, i2⟩ := lay (Below.refl _ _) hj.ba; obtain ⟨j1, j2⟩ := lay (Below.refl _ _) hj.bb; obtain ⟨ad, e0, h0, h1⟩ := Kd.flat_cells (d := kRoad) rfl hj.a2 zR k hlt; obtain ⟨ad', e0', g0, g1⟩ := Kd.flat_cells (d := kRoad) rfl hj.b2 zR k hlt; cases (e0.symm.trans EA.out); cases (e0'.symm.trans EB.out); rw [HY.out] at h0 h1 g0 g1; have c0 := h0 _ rfl; have d0 := g0 _ rfl; have c1 := h1 0 _ rfl; have c2 := h1 1 _ rfl; have d1 := g1 0 _ rfl; have d2 := g1 1 _ rfl; clear h0 h1 g0 g1; go_simp; exact Flo.UponE.val) ?_; refine Flo.lexE_norm (fun K hK => ?_); go_simp; refine hK _ ?_; clear hK K)
                | (refine Flo.lexE_pass ?_; refine Flo.lexE_norm (fun K hK => ?_); go_simp; refine hK _ ?_; clear hK K))
              refine Flo.lexE_nil ?_
              dsimp only [Flo.chainOf]
              have HT' := Aside0.mk (HT.out.drew 1); clear HT
              refine Flo.chain_do HT'.out ?_
              go_simp
              refine Flo.UponC.val ?_
              refine Flo.chain_nil ?_
              go_wp2
              go_roundg (x.rs.length + 1 - (k + 1))
              case measure => omega
              case rel => exact ⟨k + 1, rfl, hlt, by go_num, HT'⟩
            · have hke : k = x.rs.length := by omega
              subst hke
              have d0 : decide ((x.rs.length : Int) < (x.rs.length : Int)) = false := decide_eq_false (by omega)
              obtain ⟨i1, i2⟩ := lay (Below.refl _ _) HT.out.ba
              go_wp2
              go_ret
              exact ⟨rfl, HT.out.below⟩
end
end Go.Proofs.YtbccaabaplbmhaaGreatDoor.L1
namespace Go.Proofs.YtbccaabaplbmhaaGreatDoor.L1
open Go.RowKit Go.Proofs.YtbccaabaplbmhaaGreatDoorW.PrintWords Go.Proofs.YtbccaabaplbmhaaGreatDoor.B
set_option linter.unusedVariables false
set_option linter.unusedSimpArgs false
attribute [local go_sem] mk_cell mk_frozen
section
variable (w : World)
set_option maxRecDepth 100000 in
set_option maxHeartbeats 8000000 in
theorem impl_line0 (w0 : World) (hG : Gl w0) (gi gk : Nat) (A0 A1 A2 : Option Addr) (c0 c1 c2 : Nat) (x : Inst) (hI : w.heap[gi]? = some (.cells #[.slice A0 x.vs.length c0, .slice A1 x.qs.length c1, .slice A2 x.rs.length c2] 27 (0, 0))) (hK : w.heap[gk]? = some (.cells #[.int .i64 (kindNo x)] 3 (0, 0))) (h0 : kVeh.R 45 w w0.heap.size (fun _ => True) (.slice A0 x.vs.length c0) x.vs) (h1 : kReq.R 48 w w0.heap.size (fun _ => True) (.slice A1 x.qs.length c1) x.qs) (h2 : kRoad.R 51 w w0.heap.size (fun _ => True) (.slice A2 x.rs.length c2) x.rs)
    (hB : Below w0.heap.size w0 w) (hgi : w0.heap.size ≤ gi) (hgk : w0.heap.size ≤ gk) (hf : x.tiny) (s : ByteArray) (hz : s.size ≤ 1048576) (hk : kindOf ((pieces 32 (bytesOf s)).getD 0 []) = 0) : Calls Tryz.prog 26 #[.pointer (some ⟨gi, 0, none⟩), .string s, .pointer (some ⟨gk, 0, none⟩)] w fun e w' => LineEnd w w0 gi gk (.slice A0 x.vs.length c0) (.slice A1 x.qs.length c1) (.slice A2 x.rs.length c2) (lineP x (bytesOf s)) e w' := by
  have HGL := Aside0.mk hG; have HZ := Aside0.mk hz; have HXT := Aside0.mk hf; have HGI := Aside0.mk hgi; have HGK := Aside0.mk hgk
  have HI0 := Aside0.mk hI; have HK0 := Aside0.mk hK; have HB0 := Aside0.mk hB; have HR00 := Aside0.mk h0; have HR10 := Aside0.mk h1; have HR20 := Aside0.mk h2
  have HT0 := Aside0.mk (Tch.refl (fun k => k = gi ∨ k = gk ∨ some k = (Value.slice A0 x.vs.length c0).ownBlock ∨ some k = (Value.slice A1 x.qs.length c1).ownBlock ∨ some k = (Value.slice A2 x.rs.length c2).ownBlock) w)
  have HSZ0 := Aside0.mk (Nat.le_refl w.heap.size)
  have HIL := Aside0.mk (blk_lt' hI); have HKL := Aside0.mk (blk_lt' hK)
  obtain ⟨fs, hfs⟩ : ∃ fs, pieces 32 (bytesOf s) = fs := ⟨_, rfl⟩
  rw [show lineP x (bytesOf s) = lineW x (pieces 32 (bytesOf s)) (kindOf ((pieces 32 (bytesOf s)).getD 0 [])) from rfl, hk, hfs]
  rw [hfs] at hk
  have HFS := Aside0.mk hfs; have HKD := Aside0.mk hk
  clear hfs hk hG hz hf hgi hgk hI hK hB h0 h1 h2
  go_enter Tryz.func26, Tryz.ntmps26
  obtain ⟨i1, i2⟩ := lay (Below.refl _ _) HI0.out
  obtain ⟨k1, k2⟩ := lay (Below.refl _ _) HK0.out
  go_wp2_with fail
  clear i1 i2 k1 k2
  go_at_call 47
  refine (impl_split w0 _ HGL.out HB0.out s HZ.out).mono ?_
  rintro e w1 ⟨ss, n, rfl, hsl, hnn, hws, hst, hb⟩
  have HB1 := Aside0.mk (bel_call HB0.out hb); have HI1 := Aside0.mk (blk_below HI0.out hb); have HK1 := Aside0.mk (blk_below HK0.out hb); have HR01 := Aside0.mk (Kd.R_below HR00.out hb); have HR11 := Aside0.mk (Kd.R_below HR10.out hb); have HR21 := Aside0.mk (Kd.R_below HR20.out hb); have HSZ1 := Aside0.mk (Nat.le_trans HSZ0.out hb.size); have HS1 := Aside0.mk hst; have HWS := Aside0.mk (show wordsOf ss = fs from hws.trans HFS.out); have HSL := Aside0.mk hsl; clear hsl hws hst; have HT1 := Aside0.mk (HT0.out.trans (Tch.of_below hb)); clear hb
  have HBI := Aside0.mk (Nat.ne_of_gt HIL.out); have HBK := Aside0.mk (Nat.ne_of_gt HKL.out)
  have HFL := Aside0.mk (show fs.length = n + 1 by rw [← HWS.out]; unfold wordsOf; rw [List.length_map, HSL.out])
  have HAT := Aside0.mk (fun j => show bytesOf (strAt ss j) = fs.getD j [] by rw [← HWS.out, wordsOf_at])
  have hpos : 0 < n + 1 := Nat.succ_pos _
  obtain ⟨i1, i2⟩ := lay (Below.refl _ _) HI1.out
  obtain ⟨k1, k2⟩ := lay (Below.refl _ _) HK1.out
  go_wp2_with ((with_reducible refine gate_store (t := 96) (p := 7) rfl ?_); have hsz := HSZ1.out; have HB2 := Aside0.mk (bel_box HB1.out (.cells #[.slice none 0 0, .bool false] 96)); have HI2 := Aside0.mk (blk_box HI1.out (.cells #[.slice none 0 0, .bool false] 96)); have HK2 := Aside0.mk (blk_box HK1.out (.cells #[.slice none 0 0, .bool false] 96)); have HR02 := Aside0.mk (Kd.R_below HR01.out (below_alloc (Below.refl _ _) (.cells #[.slice none 0 0, .bool false] 96))); have HR12 := Aside0.mk (Kd.R_below HR11.out (below_alloc (Below.refl _ _) (.cells #[.slice none 0 0, .bool false] 96))); have HR22 := Aside0.mk (Kd.R_below HR21.out (below_alloc (Below.refl _ _) (.cells #[.slice none 0 0, .bool false] 96))); have HSZ2 := Aside0.mk (Nat.le_trans HSZ1.out (below_alloc (Below.refl _ _) (.cells #[.slice none 0 0, .bool false] 96)).size); have HFb2 := Aside0.mk (al_new w1 (.cells #[.slice none 0 0, .bool false] 96)); have HGFb := Aside0.mk (Nat.le_trans HB1.out.size (Nat.le_refl w1.heap.size)); clear hsz; have HGF := Aside0.mk (show w0.heap.size ≤ w1.heap.size from HB1.out.size); have HGFbw := Aside0.mk (show w.heap.size ≤ w1.heap.size from HSZ1.out); have HGFw := HGFbw; have HBF := Aside0.mk (show w.heap.size ≠ w1.heap.size from by have h1 := (HS1.out.1 0 (by rw [HSL.out]; exact Nat.succ_pos _)); have h2 := cell_size h1; omega); have HT2 := Aside0.mk (HT1.out.trans (Tch.of_below (below_alloc (Below.refl _ _) (.cells #[.slice none 0 0, .bool false] 96)))); have HS2 := Aside0.mk (HS1.out.below (below_alloc (Below.refl _ _) (.cells #[.slice none 0 0, .bool false] 96))); refine wpList_putAll rfl rfl _ _ _ rfl (g := w1.heap.size) [.slice (some ⟨w.heap.size, 0, none⟩) (n + 1) (n + 1), .bool false] rfl rfl (by kernel_rfl) (List.all_eq_true.1 (show List.all [.slice (some ⟨w.heap.size, 0, none⟩) (n + 1) (n + 1), .bool false] Value.oneCell' = true from rfl)) HFb2.out rfl ?_; intro w3 hX hT hz; clear hz; clear i1 i2 k1 k2; have HT3 := Aside0.mk (tch_new HT2.out hT HGFbw.out); have HS3 := Aside0.mk (HS2.out.tch hT (HBF.out)); (try simp only [List.setIfInBounds_toArray, List.set_cons_zero, List.set_cons_succ] at hX); have HB3 := Aside0.mk (hT.below w0 (fun k hk => by rw [hk]; exact HGFb.out) HB2.out); have HI3 := Aside0.mk (tch_keep hT HFb2.out HI2.out (by decide)); have HK3 := Aside0.mk (tch_keep hT HFb2.out HK2.out (by decide)); have HR03 := Aside0.mk (R_tch HR02.out hT HFb2.out (by decide)); have HR13 := Aside0.mk (R_tch HR12.out hT HFb2.out (by decide)); have HR23 := Aside0.mk (R_tch HR22.out hT HFb2.out (by decide)); have HSZ3 := Aside0.mk (Nat.le_trans HSZ2.out hT.size); have HFb3 := Aside0.mk hX; clear hX hT; obtain ⟨i1, i2⟩ := lay (Below.refl _ _) HI3.out; obtain ⟨k1, k2⟩ := lay (Below.refl _ _) HK3.out; obtain ⟨fb1, fb2⟩ := lay (Below.refl _ _) HFb3.out)
  clear i1 i2 k1 k2 fb1 fb2
  have HF3 := Aside0.mk (show FAt w3 w1.heap.size w.heap.size 0 (n + 1) false from ⟨_, HFb3.out, fun _ => rfl⟩)
  go_at_call 48
  refine (impl_next _ w1.heap.size w.heap.size 0 n false (strAt ss 0) HF3.out (HS3.out.1 0 (by rw [HSL.out]; exact hpos))).mono ?_
  rintro e w4 ⟨rfl, hF, hT⟩
  obtain ⟨pf, hf1, _⟩ := HF3.out
  have HF4 := Aside0.mk hF; have HT4 := Aside0.mk (tch_new HT3.out hT HGFw.out); have HB4 := Aside0.mk (hT.below w0 (fun k hk => by rw [hk]; exact HGF.out) HB3.out); have HS4 := Aside0.mk (HS3.out.tch hT HBF.out); have HSZ4 := Aside0.mk (Nat.le_trans HSZ3.out hT.size); have HI4 := Aside0.mk (tch_keep hT hf1 HI3.out (by decide)); have HK4 := Aside0.mk (tch_keep hT hf1 HK3.out (by decide)); have HR04 := Aside0.mk (R_tch HR03.out hT hf1 (by decide)); have HR14 := Aside0.mk (R_tch HR13.out hT hf1 (by decide)); have HR24 := Aside0.mk (R_tch HR23.out hT hf1 (by decide)); clear hF hT hf1
  have HW0 := Aside0.mk (show bytesOf (strAt ss 0) = fs.getD 0 [] from HAT.out 0)
  have e0 := str_eq' (strAt ss 0) [118, 101, 104, 105, 99, 108, 101]
  have e1 := str_eq' (strAt ss 0) [114, 101, 113, 117, 101, 115, 116]
  have e2 := str_eq' (strAt ss 0) [114, 111, 97, 100]
  rw [HW0.out] at e0 e1 e2
  have hne := HKD.out
  unfold kindOf at hne
  by_cases g0 : fs.getD 0 [] = wVehicle
  · rw [if_pos g0] at hne; cases hne
  rw [if_neg g0] at hne
  by_cases g1 : fs.getD 0 [] = wRequest
  · rw [if_pos g1] at hne; cases hne
  rw [if_neg g1] at hne
  by_cases g2 : fs.getD 0 [] = wRoad
  · rw [if_pos g2] at hne; cases hne
  rw [decide_eq_false (show ¬ fs.getD 0 [] = ofU [118, 101, 104, 105, 99, 108, 101] from g0)] at e0
  rw [decide_eq_false (show ¬ fs.getD 0 [] = ofU [114, 101, 113, 117, 101, 115, 116] from g1)] at e1
  rw [decide_eq_false (show ¬ fs.getD 0 [] = ofU [114, 111, 97, 100] from g2)] at e2
  clear hne g0 g1 g2
  obtain ⟨kc0, kc1, kc2, kc3, kc4, kc5⟩ := HGL.out.kinds
  have HKC := Aside0.mk (And.intro (pw_cell_below HB4.out kc0) (And.intro (pw_cell_below HB4.out kc1) (And.intro (pw_cell_below HB4.out kc2) (And.intro (pw_cell_below HB4.out kc3) (And.intro (pw_cell_below HB4.out kc4) (pw_cell_below HB4.out kc5))))))
  clear kc0 kc1 kc2 kc3 kc4 kc5
  obtain ⟨i1, i2⟩ := lay (Below.refl _ _) HI4.out
  obtain ⟨k1, k2⟩ := lay (Below.refl _ _) HK4.out
  go_wp2_with fail
  clear i1 i2 k1 k2
  go_loopg [10] 4 (fun q v10 wr => ∃ a : Nat, q = 4 - a ∧ a ≤ 3 ∧ v10 = .int .i64 a ∧ w4 = wr)
  case atStart => exact ⟨0, by omega, by omega, rfl, rfl⟩
  case round =>
    obtain ⟨a, rfl, ha, rfl, rfl⟩ := hrel
    obtain ⟨kc0, kc1, kc2, kc3, kc4, kc5⟩ := HKC.out
    rcases (show a = 0 ∨ a = 1 ∨ a = 2 ∨ a = 3 by omega) with rfl | rfl | rfl | rfl
    · go_wp2
      go_roundg (4 - (0 + 1))
      case measure => omega
      case rel => exact ⟨0 + 1, rfl, by omega, rfl, rfl⟩
    · go_wp2
      go_roundg (4 - (1 + 1))
      case measure => omega
      case rel => exact ⟨1 + 1, rfl, by omega, rfl, rfl⟩
    · go_wp2
      go_roundg (4 - (2 + 1))
      case measure => omega
      case rel => exact ⟨2 + 1, rfl, by omega, rfl, rfl⟩
    · skip
      have HV := Aside0.mk (show lineW x fs 0 = (3, x) from rfl)
      obtain ⟨i1, i2⟩ := lay (Below.refl _ _) HI4.out
      obtain ⟨k1, k2⟩ := lay (Below.refl _ _) HK4.out
      go_wp2
      go_ret
      exact ⟨Or.inr ⟨by rw [HV.out]; show (3 : Int) ≠ 0; decide, by rw [HV.out]; rfl⟩, HT4.out⟩
end
end Go.Proofs.YtbccaabaplbmhaaGreatDoor.L1
