/- The law FnInstText's own walk. -/
import Derived.Test.YtbccaabaplbmhaaGreatDoorQT13
import Derived.Test.YtbccaabaplbmhaaGreatDoorQT18
import Derived.Test.YtbccaabaplbmhaaGreatDoorQT20
import Derived.Test.YtbccaabaplbmhaaGreatDoorQT5
namespace Go.Proofs.YtbccaabaplbmhaaGreatDoor.L1
open Go.RowKit Go.Proofs.YtbccaabaplbmhaaGreatDoorW.PrintWords Go.Proofs.YtbccaabaplbmhaaGreatDoor.B
set_option linter.unusedVariables false
set_option linter.unusedSimpArgs false
attribute [local go_sem] mk_cell mk_frozen
/-- Bytes that are told to be bytes. -/
def kB8 : Kd {n : Int // 0 ≤ n ∧ n < 256} := Kd.flat 1 (fun n => [.int .u8 n.1]) (fun _ => rfl) (by intro x u hu; simp at hu; rcases hu with rfl; rfl)
theorem kB8_C {w : World} {A : Option Addr} {n : Nat} {xs : List {n : Int // 0 ≤ n ∧ n < 256}} (h : kB8.C w A n xs) : kByte.C w A n (xs.map Subtype.val) := by
  refine ⟨by rw [List.length_map]; exact h.1, h.2.1, fun hn => ?_⟩
  obtain ⟨ad, e, hc⟩ := h.2.2 hn
  refine ⟨ad, e, fun j p hp => ?_⟩
  rw [List.getElem?_map] at hp
  obtain ⟨q, hq, rfl⟩ := Option.map_eq_some_iff.1 hp
  exact hc j q hq
section
variable {H : Type} {enc : TypeId × Value → H} {w : World} {base : Nat} {spare : Nat → Bool} {held : Bool}
theorem open_byte (n : Nat) (cs : List Value) (x : DataW H × List MemPlace) (h : DataW.trod enc Tryz.prog w base spare held n 5 cs = some x) : ∃ y, kB8.K w y cs := by
  obtain ⟨k, rfl, _, hw⟩ := DataW.trod_int (k := .u8) Tryz.underlying5 h
  have hw' : 0 ≤ k ∧ k < 256 := by simp [Lit.wf, IntKind.min, IntKind.max, IntKind.signed, IntKind.bits] at hw; omega
  exact ⟨⟨k, hw'⟩, rfl⟩
set_option maxRecDepth 100000 in
/-- A row of bytes that came in. -/
theorem open_bytes {r : Reach} {b0 : Nat} {v : Value} {d : DataW H} {p : List MemPlace} (hv : Value.okWide Tryz.prog w r b0 22 v) (h : DataW.Trod enc Tryz.prog w base spare held 22 v d p) : ∃ A c xs, v = .slice A xs.length c ∧ kByte.C w A xs.length xs ∧ ∀ b, b ∈ xs → 0 ≤ b ∧ b < 256 := by
  obtain ⟨a0, len, cap, rfl⟩ := Go.WideShapes.okWide_slice Tryz.underlying22 hv
  obtain ⟨m, hm⟩ := h
  obtain ⟨A, c, xs, e, r⟩ := Open.open_C kB8 (Tryz.underlying22) (by kernel_rfl) open_byte hm
  have e1 : [Value.slice a0 len cap] = [Value.slice A xs.length c] := e
  simp only [List.cons.injEq, and_true] at e1
  refine ⟨A, c, xs.map Subtype.val, by rw [List.length_map]; exact e1, by rw [List.length_map]; exact kB8_C r, fun b hb => ?_⟩
  obtain ⟨q, _, rfl⟩ := List.mem_map.1 hb
  exact q.2
end
theorem Gl.on {w W : World} (h : Gl w) (hb : Below w.heap.size w W) : Gl W := by
  obtain ⟨⟨m, hm⟩, ⟨s, hs, hs'⟩, ⟨r, hr, hr'⟩, ht, hk⟩ := h
  exact ⟨⟨m, pw_cell_below hb hm⟩, ⟨s, pw_cell_below hb hs, hs'⟩, ⟨r, pw_cell_below hb hr, hr'⟩, fun w' h' => ht w' (bel_call hb h'), pw_cell_below hb hk.1, pw_cell_below hb hk.2.1, pw_cell_below hb hk.2.2.1, pw_cell_below hb hk.2.2.2.1, pw_cell_below hb hk.2.2.2.2.1, pw_cell_below hb hk.2.2.2.2.2⟩
theorem row_at {W : World} {base c : Nat} {A : Option Addr} {bs : List Int} {e : TypeId} (h : kByte.R e W base (fun _ => True) (.slice A bs.length c) bs) : bs = [] ∨ ∃ b off, A = some ⟨b, off, none⟩ := by
  rcases Nat.eq_zero_or_pos bs.length with hz | hz
  · exact Or.inl (List.eq_nil_of_length_eq_zero hz)
  · obtain ⟨g, cap, e, _⟩ := Kd.R_form h hz
    simp only [Value.slice.injEq] at e
    exact Or.inr ⟨g, 0, e.1⟩
/-- What is printed is bytes. -/
theorem tagsTo_bd (s : Int) (k : Nat) (c : Int) (h : c ∈ tagsTo s k) : 97 ≤ c ∧ c < 97 + (k : Int) := by
  unfold tagsTo at h
  obtain ⟨t, ht, hc⟩ := List.mem_flatMap.1 h
  have := List.mem_range.1 ht
  unfold tagAt at hc
  split at hc
  · rw [List.mem_singleton] at hc; subst hc; omega
  · cases hc
theorem bel5 {w W : World} {a0 a1 a2 a3 a4 : Addr} {v0 v1 v2 v3 v4 : Value} (h : W.cell? a0 = some v0 ∧ W.cell? a1 = some v1 ∧ W.cell? a2 = some v2 ∧ W.cell? a3 = some v3 ∧ W.cell? a4 = some v4 ∧ Below w.heap.size w W) : Below w.heap.size w W := h.2.2.2.2.2
theorem tagT_byte {s c : Int} (h : c ∈ tagT s) : isByte c := by
  unfold tagT at h
  split at h
  · rw [List.mem_singleton] at h; subst h; exact ⟨by decide, by decide⟩
  · have := tagsTo_bd s 16 c h; exact ⟨by omega, by omega⟩
theorem dec_byte {n c : Int} (h : c ∈ dec n) : isByte c := by
  rcases dec_mem h with rfl | h
  · exact ⟨by decide, by decide⟩
  · unfold isDig at h; exact ⟨by omega, by omega⟩
theorem line_byte {fs : List (List Int)} (hn : fs ≠ []) (h : ∀ f, f ∈ fs → ∀ c, c ∈ f → isByte c) : ∀ c, c ∈ lineOf fs → isByte c := by
  obtain ⟨l, e1, e2⟩ := wds_line hn
  intro c hc
  rw [e2] at hc
  rcases List.mem_append.1 hc with hc | hc
  · have hm : c ∈ wds fs := by rw [e1]; exact List.mem_append_left _ hc
    unfold wds at hm
    obtain ⟨f, hf, hcf⟩ := List.mem_flatMap.1 hm
    rcases List.mem_append.1 hcf with hcf | hcf
    · exact h f hf c hcf
    · rw [List.mem_singleton] at hcf; subst hcf; exact ⟨by decide, by decide⟩
  · rw [List.mem_singleton] at hc; subst hc; exact ⟨by decide, by decide⟩
theorem veh_byte (v : Veh) : ∀ c, c ∈ lineOf v.flds → isByte c := by
  refine line_byte (by simp [Veh.flds]) fun f hf => ?_
  simp only [Veh.flds, Place.flds, List.cons_append, List.nil_append, List.mem_cons, List.not_mem_nil, or_false] at hf
  rcases hf with rfl | rfl | rfl | rfl | rfl | rfl | rfl | rfl
  · intro c hc; have : ∀ c, c ∈ wVehicle → isByte c := by unfold isByte; decide
    exact this c hc
  · exact fun c hc => dec_byte hc
  · exact fun c hc => tagT_byte hc
  all_goals exact fun c hc => dec_byte hc
theorem req_byte (v : Req) : ∀ c, c ∈ lineOf v.flds → isByte c := by
  refine line_byte (by simp [Req.flds]) fun f hf => ?_
  simp only [Req.flds, Place.flds, List.cons_append, List.nil_append, List.append_assoc, List.mem_cons, List.not_mem_nil, or_false] at hf
  rcases hf with rfl | rfl | rfl | rfl | rfl | rfl | rfl | rfl | rfl | rfl | rfl | rfl | rfl
  · intro c hc; have : ∀ c, c ∈ wRequest → isByte c := by unfold isByte; decide
    exact this c hc
  · exact fun c hc => dec_byte hc
  · exact fun c hc => tagT_byte hc
  all_goals exact fun c hc => dec_byte hc
theorem road_byte (v : Road) : ∀ c, c ∈ lineOf v.flds → isByte c := by
  refine line_byte (by simp [Road.flds]) fun f hf => ?_
  simp only [Road.flds, List.mem_cons, List.not_mem_nil, or_false] at hf
  rcases hf with rfl | rfl | rfl | rfl
  · intro c hc; have : ∀ c, c ∈ wRoad → isByte c := by unfold isByte; decide
    exact this c hc
  all_goals exact fun c hc => dec_byte hc
theorem lines_byte {α : Type} (f : α → List (List Int)) (h : ∀ a c, c ∈ lineOf (f a) → isByte c) (l : List α) : ∀ c, c ∈ lines f l → isByte c := by
  intro c hc
  unfold lines at hc
  obtain ⟨a, _, hca⟩ := List.mem_flatMap.1 hc
  exact h a c hca
theorem print_tame {x : Inst} (h : x.valid = true) : Tame x.print := by
  refine ⟨Nat.le_trans (parse_print h).2 (by decide), fun c hc => ?_⟩
  have hp : x.print = (lines Veh.flds x.vs ++ lines Req.flds x.qs) ++ lines Road.flds x.rs := by unfold Inst.print; rw [if_pos h]; rfl
  rw [hp] at hc
  rcases List.mem_append.1 hc with hc | hc
  · rcases List.mem_append.1 hc with hc | hc
    · exact lines_byte _ veh_byte _ c hc
    · exact lines_byte _ req_byte _ c hc
  · exact lines_byte _ road_byte _ c hc
section
variable (w : World)
set_option maxRecDepth 100000 in
set_option maxHeartbeats 8000000 in
theorem law_instText (A : Option Addr) (c : Nat) (bs : List Int) (hr : kByte.C w A bs.length bs) (hG : Gl w) (hE : w.cell? ⟨1, 0, none⟩ = some (.iface 121 (.agg #[.pointer (some ⟨10, 67, none⟩)]))) : Calls Tryz.prog 3 #[.slice A bs.length c] w fun e w' => e = .returned (.bool true) ∧ Below w.heap.size w w' := by
  have HR := Aside0.mk hr; have HGL := Aside0.mk (And.intro hG hE); clear hr hG hE
  by_cases hl : 1048576 < bs.length
  · have p0 : decide ((1048576 : Int) < (bs.length : Int)) = true := decide_eq_true (by omega)
    have p1 : decide ((bs.length : Int) > (1048576 : Int)) = true := decide_eq_true (by omega)
    go_enter Tryz.func3, Tryz.ntmps3
    go_wp2
    go_ret
    exact ⟨rfl, Below.refl _ _⟩
  have hxl : bs.length ≤ 1048576 := by omega
  have HXL := Aside0.mk hxl
  have p0 : decide ((1048576 : Int) < (bs.length : Int)) = false := decide_eq_false (by omega)
  have p1 : decide ((bs.length : Int) > (1048576 : Int)) = false := decide_eq_false (by omega)
  clear hl hxl
  obtain ⟨x, hx⟩ : ∃ x, drawD bs = x := ⟨_, rfl⟩
  have HLN := Aside0.mk (drawD_len bs)
  rw [hx] at HLN
  have HX := Aside0.mk hx; clear hx
  go_enter Tryz.func3, Tryz.ntmps3
  go_wp2_with fail
  clear p0 p1
  go_at_call 4
  refine (spec_draw _ A c bs HR.out HXL.out).mono ?_
  rintro e w1 ⟨v0, v1, v2, rfl, hb, r0, r1, r2⟩
  rw [HX.out] at r0 r1 r2
  obtain ⟨A0, c0, rfl, _, t0⟩ := Kd.R_reads r0
  obtain ⟨A1, c1, rfl, _, t1⟩ := Kd.R_reads r1
  obtain ⟨A2, c2, rfl, _, t2⟩ := Kd.R_reads r2
  have HI1 := Aside0.mk ((show ReadInst w1 (.agg #[.slice A0 x.vs.length c0, .slice A1 x.qs.length c1, .slice A2 x.rs.length c2]) x from ⟨_, _, _, _, _, _, rfl, t0, t1, t2⟩).below (below_alloc (Below.refl _ _) (.cells #[.slice A0 x.vs.length c0, .slice A1 x.qs.length c1, .slice A2 x.rs.length c2] 27)))
  have HB1 := Aside0.mk (bel_box hb (.cells #[.slice A0 x.vs.length c0, .slice A1 x.qs.length c1, .slice A2 x.rs.length c2] 27))
  have HV1 := Aside0.mk (al_new w1 (.cells #[.slice A0 x.vs.length c0, .slice A1 x.qs.length c1, .slice A2 x.rs.length c2] 27 (0, 0)))
  clear hb r0 r1 r2 t0 t1 t2
  go_wp2_with fail
  go_at_call 5
  refine (spec_validInst _ _ x HI1.out).mono ?_
  rintro e w2 ⟨rfl, hb⟩
  have HB2 := Aside0.mk (bel_call HB1.out hb); have HI2 := Aside0.mk (HI1.out.below hb); have HV2 := Aside0.mk (blk_below HV1.out hb); clear hb HB1 HI1 HV1
  obtain ⟨b1, b2⟩ := lay (Below.refl _ _) HV2.out
  cases hv : x.valid
  · have HE := Aside0.mk (show x.print = [] by unfold Inst.print; rw [if_neg (by rw [hv]; decide)])
    go_wp2_with fail
    clear b1 b2
    go_at_call 6
    refine (impl_PrintInst _ _ x HI2.out (fun w' h' => HGL.out.1.tab w' (bel_call HB2.out h'))).mono ?_
    rintro e w3 ⟨u, rfl, hu, hb⟩
    rw [HE.out] at hu
    obtain ⟨B, d, rfl⟩ := Kd.R_slice hu
    have HB3 := Aside0.mk (bel_call HB2.out hb); clear hb hu
    go_wp2
    go_ret
    exact ⟨rfl, HB3.out⟩
  · have HP := Aside0.mk (parse_print hv); have HT := Aside0.mk (print_tame hv); clear hv
    go_wp2_with fail
    clear b1 b2
    go_at_call 6
    refine (impl_PrintInst _ _ x HI2.out (fun w' h' => HGL.out.1.tab w' (bel_call HB2.out h'))).mono ?_
    rintro e w3 ⟨u, rfl, hu, hb⟩
    obtain ⟨B, d, rfl⟩ := Kd.R_slice hu
    have HB3 := Aside0.mk (bel_call HB2.out hb); have HU := Aside0.mk hu; clear hb hu HI2 HV2
    go_wp2_with fail
    go_at_call 7
    refine (impl_ParseInst _ (HGL.out.1.on HB3.out) (pw_cell_below HB3.out HGL.out.2) B d x.print (Kd.R_reads' HU.out).2.2 HT.out (row_at HU.out)).mono ?_
    rintro e w4 ⟨uG, rfl, ho, hb⟩
    rw [HP.out.1] at ho
    obtain ⟨y0, y1, y2, rfl, r0, r1, r2⟩ := ho
    obtain ⟨G0, q0, rfl, _, t0⟩ := Kd.R_reads r0
    obtain ⟨G1, q1, rfl, _, t1⟩ := Kd.R_reads r1
    obtain ⟨G2, q2, rfl, _, t2⟩ := Kd.R_reads r2
    have HB4 := Aside0.mk (bel_box (bel_call HB3.out hb) (.cells #[.int .i64 0, .int .i64 0, .slice G0 x.vs.length q0, .slice G1 x.qs.length q1, .slice G2 x.rs.length q2] 32))
    have HV4 := Aside0.mk (al_new w4 (.cells #[.int .i64 0, .int .i64 0, .slice G0 x.vs.length q0, .slice G1 x.qs.length q1, .slice G2 x.rs.length q2] 32 (0, 0)))
    have HT4 := Aside0.mk (below_alloc (Below.refl w4.heap.size w4) (.cells #[.int .i64 0, .int .i64 0, .slice G0 x.vs.length q0, .slice G1 x.qs.length q1, .slice G2 x.rs.length q2] 32))
    have HG4 := Aside0.mk (And.intro t0 (And.intro t1 t2))
    clear hb r0 r1 r2 t0 t1 t2 HU HB3
    go_upto_region 8 with fail
    generalize w4.alloc (.cells #[.int .i64 0, .int .i64 0, .slice G0 x.vs.length q0, .slice G1 x.qs.length q1, .slice G2 x.rs.length q2] 32) = w5 at HB4 HV4 HT4 ⊢
    generalize hS : w4.heap.size = S at HV4 HT4 ⊢
    have HSS := Aside0.mk hS; clear hS
    go_region_held3 (fun w' => w'.cell? ⟨S, 0, none⟩ = some (.int .i64 0) ∧ w'.cell? ⟨S, 1, none⟩ = some (.int .i64 0) ∧ w'.cell? ⟨S, 2, none⟩ = some (.slice G0 x.vs.length q0) ∧ w'.cell? ⟨S, 3, none⟩ = some (.slice G1 x.qs.length q1) ∧ w'.cell? ⟨S, 4, none⟩ = some (.slice G2 x.rs.length q2) ∧ Below w5.heap.size w5 w')
      (first | exact ⟨blk_cell HV4.out 0, blk_cell HV4.out 1, blk_cell HV4.out 2, blk_cell HV4.out 3, blk_cell HV4.out 4, below_drew (Below.refl _ _)⟩ | exact keepC5 (by assumption) hb2 | exact keepC5 (by assumption) hb3)
      (first
        | (go_at_call 4; refine Calls.mono (spec_draw _ A c bs ?_ HXL.out) ?_; exact Kd.C_below HR.out (bel_call HB4.out (bel5 (by assumption))); rintro e w7 ⟨u0, u1, u2, rfl, hb2, m0, m1, m2⟩; rw [HX.out] at m0 m1 m2; obtain ⟨D0, e0, rfl, _, k0⟩ := Kd.R_reads m0; obtain ⟨D1, e1, rfl, _, k1⟩ := Kd.R_reads m1; obtain ⟨D2, e2, rfl, _, k2⟩ := Kd.R_reads m2; clear m0 m1 m2)
        | (go_at_call 8; refine (law_inst _ G0 G1 G2 D0 D1 D2 q0 q1 q2 e0 e1 e2 x (Nat.le_trans HLN.out.1 (by decide)) (Nat.le_trans HLN.out.2.1 (by decide)) (Nat.le_trans HLN.out.2.2 (by decide)) (Kd.C_below (Kd.C_below HG4.out.1 (HSS.out ▸ HT4.out)) (bel5 (by assumption))) (Kd.C_below (Kd.C_below HG4.out.2.1 (HSS.out ▸ HT4.out)) (bel5 (by assumption))) (Kd.C_below (Kd.C_below HG4.out.2.2 (HSS.out ▸ HT4.out)) (bel5 (by assumption))) k0 k1 k2).mono ?_; rintro e w8 ⟨rfl, hb3⟩))
    rename_i hH
    have HB7 := Aside0.mk (bel_call HB4.out hH.2.2.2.2.2); clear hH
    go_wp2
    go_ret
    exact ⟨rfl, HB7.out⟩
end
end Go.Proofs.YtbccaabaplbmhaaGreatDoor.L1
