/- The attributes at the start of a route, as the reference tells them. What a drawn region makes, told place by place; append onto an empty literal; states that failed. -/
import Derived.Test.YtlhpbpkefkabgaaGreatQS25
namespace Go.Proofs.YtlhpbpkefkabgaaGreat.L1
open Go.RowKit Go.Proofs.YtlhpbpkefkabgaaGreatW.PrintWords Go.Proofs.YtlhpbpkefkabgaaGreat.B
set_option linter.unusedVariables false
set_option linter.unusedSimpArgs false
attribute [local go_sem] mk_cell mk_frozen
theorem route_nil {x : Inst} {kv : Nat} (h : x.valid = true) (hv : kv < x.vs.length) : x.route kv [] := ⟨h, fun i => by
  have : nodeAt (kv : Int) [] i = kv := by unfold nodeAt; split <;> simp_all <;> omega
  rw [this]; unfold Inst.nodes; omega⟩
theorem nodeAt_zero (v : Int) (xs : List Int) : nodeAt v xs 0 = v := by unfold nodeAt; rw [if_pos (Or.inl rfl)]
section
variable (w : World)
set_option maxRecDepth 100000 in
set_option maxHeartbeats 4000000 in
theorem spec_arrive0 (u r : Value) (x : Inst) (hx : ReadInst w u x) (kv : Nat) (hs : ReadInts w r []) (hval : x.valid = true) (hv : kv < x.vs.length) :
    Calls Tryz.prog 150 #[u, .int .i64 kv, r, .int .i64 0] w fun e w' => e = .returned (.int .i64 (x.placeAt kv).o) ∧ Below w.heap.size w w' := by
  have HX := sA hx; have HS := sA hs; have HV := sA (And.intro hval hv)
  obtain ⟨f0, f1, f2, hnear⟩ := Inst.few_near hval
  have HF := sA (And.intro f0 (And.intro f1 (And.intro f2 hnear)))
  have HM := sA (show x.small from ⟨by omega, by omega, by omega⟩)
  have HN := sA (show (0 : Int) ≤ kv ∧ (kv : Int) < x.nodes from ⟨by omega, by unfold Inst.nodes; omega⟩)
  have hkv : (kv : Int) < (x.vs.length : Int) := by omega
  have hpl := Inst.place_v hv
  obtain ⟨B0, d0, B1, d1, B2, d2, rfl, b0, b1, b2⟩ := hx
  obtain ⟨ad, e0, t0, t1⟩ := Kd.flat_cells (d := kVeh) rfl b0 zV kv hv
  cases e0
  have ZO := sA (t1 3 _ rfl)
  rw [← hpl] at ZO
  generalize ho : (x.placeAt kv).o = po at ZO
  have HO := sA ho; clear ho hpl
  clear b0 b1 b2 t0 t1 f0 f1 f2 hnear hval hs
  obtain ⟨HB0, HI0, HZ0⟩ := opens1 w (.cells #[.slice (some ad) x.vs.length d0, .slice B1 x.qs.length d1, .slice B2 x.rs.length d2] 47)
  go_enter Tryz.func150, Tryz.ntmps150
  obtain ⟨i1, i2⟩ := lay0 HI0.out
  have cZO := pC HB0.out ZO.out
  go_wp2
  go_ret
  exact ⟨rfl, HB0.out⟩
set_option maxRecDepth 100000 in
set_option maxHeartbeats 4000000 in
theorem spec_time0 (u r : Value) (x : Inst) (hx : ReadInst w u x) (kv : Nat) (hs : ReadInts w r []) (hval : x.valid = true) (hv : kv < x.vs.length) :
    Calls Tryz.prog 149 #[u, .int .i64 kv, r, .int .i64 0] w fun e w' => e = .returned (.int .i64 (x.placeAt kv).o) ∧ Below w.heap.size w w' := by
  have HX := sA hx; have HS := sA hs; have HV := sA (And.intro hval hv)
  obtain ⟨f0, f1, f2, hnear⟩ := Inst.few_near hval
  have HF := sA (And.intro f0 (And.intro f1 (And.intro f2 hnear)))
  have HM := sA (show x.small from ⟨by omega, by omega, by omega⟩)
  have HN := sA (show (0 : Int) ≤ kv ∧ (kv : Int) < x.nodes from ⟨by omega, by unfold Inst.nodes; omega⟩)
  have hkv : (kv : Int) < (x.vs.length : Int) := by omega
  have hpl := Inst.place_v hv
  obtain ⟨B0, d0, B1, d1, B2, d2, rfl, b0, b1, b2⟩ := hx
  obtain ⟨ad, e0, t0, t1⟩ := Kd.flat_cells (d := kVeh) rfl b0 zV kv hv
  cases e0
  clear hpl
  clear b0 b1 b2 t0 t1 f0 f1 f2 hnear hval hs
  obtain ⟨HB0, HI0, HZ0⟩ := opens1 w (.cells #[.slice (some ad) x.vs.length d0, .slice B1 x.qs.length d1, .slice B2 x.rs.length d2] 47)
  have hnd := fun W r' (h : ReadInts W r' []) => spec_nodeAt W kv r' [] h 0
  simp only [nodeAt_zero] at hnd
  have HND := sA hnd; clear hnd
  go_enter Tryz.func149, Tryz.ntmps149
  go_wp2_with fail
  generalize hpl : x.placeAt kv = pl at *
  have HPL := sA hpl; clear hpl
  refine Grow.wp_region_growB (by kernel_rfl) (by kernel_rfl) ?_
  repeat ((first | (refine Grow.lex_do _ (by rfl) (by intro W hj; obtain ⟨i1, i2⟩ := lay hj.out HI0.out; go_simp; first | exact Grow.Upon.val hj | (have cc := HND.out W r (HS.out.below (bC HB0.out hj.out)); with_reducible exact Grow.Upon.callB hj cc) | (have cc := show Calls Tryz.prog 53 #[.agg #[.slice (some ad) x.vs.length d0, .slice B1 x.qs.length d1, .slice B2 x.rs.length d2], .int .i64 kv] W fun e w' => e = .returned (.agg #[.int .i64 pl.x, .int .i64 pl.y, .int .i64 pl.o, .int .i64 pl.c, .int .i64 pl.h]) ∧ Below W.heap.size W w' from HPL.out ▸ spec_placeOf W _ x (HX.out.below (bC HB0.out hj.out)) HF.out.1 HF.out.2.1 kv HN.out.1 HN.out.2; with_reducible exact Grow.Upon.callB hj cc) | (have cc := show Calls Tryz.prog 150 #[.agg #[.slice (some ad) x.vs.length d0, .slice B1 x.qs.length d1, .slice B2 x.rs.length d2], .int .i64 kv, r, .int .i64 0] W fun e w' => e = .returned (.int .i64 pl.o) ∧ Below W.heap.size W w' from HPL.out ▸ spec_arrive0 W _ r x (HX.out.below (bC HB0.out hj.out)) kv (HS.out.below (bC HB0.out hj.out)) HV.out.1 HV.out.2; with_reducible exact Grow.Upon.callB hj cc) | (have cc := spec_max W pl.o pl.o; with_reducible exact Grow.Upon.callB hj (cc.mono fun e w' h => ⟨h.1, h.2 ▸ Below.refl _ _⟩))) ?_)); refine Grow.lex_norm (fun K hK => ?_); go_simp; refine hK _ ?_; clear hK K)
  refine Grow.lex_nil (fun w1 hj => ?_)
  have hb := hj.out; clear hj
  have HB1 := sA (bC HB0.out hb); have HI1 := sA (bB HI0.out hb); clear hb
  go_wp2
  go_ret
  have e : maxI pl.o pl.o = pl.o := by unfold maxI; split <;> rfl
  exact ⟨by rw [e, HPL.out]; rfl, HB1.out⟩
set_option maxRecDepth 100000 in
set_option maxHeartbeats 4000000 in
theorem spec_load0 (u r : Value) (x : Inst) (hx : ReadInst w u x) (kv : Nat) (hs : ReadInts w r []) (hval : x.valid = true) (hv : kv < x.vs.length) :
    Calls Tryz.prog 153 #[u, .int .i64 kv, r, .int .i64 0] w fun e w' => e = .returned (.int .i64 0) ∧ Below w.heap.size w w' := by
  have HX := sA hx; have HS := sA hs; have HV := sA (And.intro hval hv)
  obtain ⟨f0, f1, f2, hnear⟩ := Inst.few_near hval
  have HF := sA (And.intro f0 (And.intro f1 (And.intro f2 hnear)))
  have HM := sA (show x.small from ⟨by omega, by omega, by omega⟩)
  have HN := sA (show (0 : Int) ≤ kv ∧ (kv : Int) < x.nodes from ⟨by omega, by unfold Inst.nodes; omega⟩)
  have hkv : (kv : Int) < (x.vs.length : Int) := by omega
  have hpl := Inst.place_v hv
  obtain ⟨B0, d0, B1, d1, B2, d2, rfl, b0, b1, b2⟩ := hx
  obtain ⟨ad, e0, t0, t1⟩ := Kd.flat_cells (d := kVeh) rfl b0 zV kv hv
  cases e0
  clear hpl
  clear b0 b1 b2 t0 t1 f0 f1 f2 hnear hval hs
  obtain ⟨HB0, HI0, HZ0⟩ := opens1 w (.cells #[.slice (some ad) x.vs.length d0, .slice B1 x.qs.length d1, .slice B2 x.rs.length d2] 47)
  go_enter Tryz.func153, Tryz.ntmps153
  go_wp2
  go_ret
  exact ⟨rfl, HB0.out⟩
set_option maxRecDepth 100000 in
set_option maxHeartbeats 4000000 in
theorem spec_attrs0 (u r : Value) (x : Inst) (hx : ReadInst w u x) (kv : Nat) (hs : ReadInts w r []) (hval : x.valid = true) (hv : kv < x.vs.length) :
    Calls Tryz.prog 112 #[u, .int .i64 kv, r, .int .i64 0] w fun e w' => ∃ v, e = .returned v ∧ kInt.R 2 w' w.heap.size (fun _ => True) v (startA x kv) ∧ Below w.heap.size w w' := by
  have HX := sA hx; have HS := sA hs; have HV := sA (And.intro hval hv)
  obtain ⟨f0, f1, f2, hnear⟩ := Inst.few_near hval
  have HF := sA (And.intro f0 (And.intro f1 (And.intro f2 hnear)))
  have HM := sA (show x.small from ⟨by omega, by omega, by omega⟩)
  have HN := sA (show (0 : Int) ≤ kv ∧ (kv : Int) < x.nodes from ⟨by omega, by unfold Inst.nodes; omega⟩)
  have hkv : (kv : Int) < (x.vs.length : Int) := by omega
  have hpl := Inst.place_v hv
  obtain ⟨B0, d0, B1, d1, B2, d2, rfl, b0, b1, b2⟩ := hx
  obtain ⟨ad, e0, t0, t1⟩ := Kd.flat_cells (d := kVeh) rfl b0 zV kv hv
  cases e0
  have ZV := sA (t0 _ rfl)
  generalize hR : (x.vs.getD kv zV).room = rm at ZV
  have HRM := sA hR; clear hR hpl
  clear b0 b1 b2 t0 t1 f0 f1 f2 hnear hval hs
  obtain ⟨HB0, HI0, HZ0⟩ := opens1 w (.cells #[.slice (some ad) x.vs.length d0, .slice B1 x.qs.length d1, .slice B2 x.rs.length d2] 47)
  have hnd := fun W r' (h : ReadInts W r' []) => spec_nodeAt W kv r' [] h 0
  simp only [nodeAt_zero] at hnd
  have HND := sA hnd; clear hnd
  have hst : x.stop (kv : Int) = false := by
    cases h : x.stop (kv : Int) with
    | false => rfl
    | true => obtain ⟨q', d', g1, g2, g3, _⟩ := Inst.stop_bd h; omega
  have hpk : x.pick kv = false := by unfold Inst.pick; rw [hst]; rfl
  have hdr : x.dropB kv = false := by unfold Inst.dropB; rw [hst]; rfl
  have hsz : x.sizeAt kv = 0 := by unfold Inst.sizeAt; rw [hst]; rfl
  have HZ := sA (And.intro hpk (And.intro hdr hsz)); clear hst hpk hdr hsz
  have hob := Place.facts (Inst.place_good HV.out.1 HN.out.1 HN.out.2)
  generalize hpl : x.placeAt kv = pl at *
  have HPL := sA hpl; clear hpl
  have q0 : IntKind.i64.wrap (-pl.o) = -pl.o := IntWalk.i64_in _ (by omega)
  clear hob
  go_enter Tryz.func112, Tryz.ntmps112
  go_wp2_with fail
  go_at_call 148
  refine (HND.out _ r (HS.out.below HB0.out)).mono ?_
  rintro e w1 ⟨rfl, hb⟩
  have HB1 := sA (bC HB0.out hb); have HI1 := sA (bB HI0.out hb); clear hb
  obtain ⟨i1, i2⟩ := lay0 HI1.out
  go_wp2_with fail
  clear i1 i2
  go_at_call 53
  refine (show Calls Tryz.prog 53 #[.agg #[.slice (some ad) x.vs.length d0, .slice B1 x.qs.length d1, .slice B2 x.rs.length d2], .int .i64 kv] _ fun e w' => e = .returned (.agg #[.int .i64 pl.x, .int .i64 pl.y, .int .i64 pl.o, .int .i64 pl.c, .int .i64 pl.h]) ∧ _ from HPL.out ▸ spec_placeOf _ _ x (HX.out.below HB1.out) HF.out.1 HF.out.2.1 kv HN.out.1 HN.out.2).mono ?_
  rintro e w2 ⟨rfl, hb⟩
  have HB2 := sA (bC HB1.out hb); have HI2 := sA (bB HI1.out hb); clear hb
  have HB3 := sA (bel_box HB2.out (.cells #[.int .i64 pl.x, .int .i64 pl.y, .int .i64 pl.o, .int .i64 pl.c, .int .i64 pl.h] 69)); have HI3 := sA (blk_box HI2.out (.cells #[.int .i64 pl.x, .int .i64 pl.y, .int .i64 pl.o, .int .i64 pl.c, .int .i64 pl.h] 69)); have HP3 := sA (al_new w2 (.cells #[.int .i64 pl.x, .int .i64 pl.y, .int .i64 pl.o, .int .i64 pl.c, .int .i64 pl.h] 69))
  obtain ⟨i1, i2⟩ := lay0 HI3.out
  obtain ⟨p1, p2⟩ := lay0 HP3.out
  go_wp2_with fail
  clear i1 i2 p1 p2
  go_at_call 149
  refine (show Calls Tryz.prog 149 #[.agg #[.slice (some ad) x.vs.length d0, .slice B1 x.qs.length d1, .slice B2 x.rs.length d2], .int .i64 kv, r, .int .i64 0] _ fun e w' => e = .returned (.int .i64 pl.o) ∧ _ from HPL.out ▸ spec_time0 _ _ r x (HX.out.below HB3.out) kv (HS.out.below HB3.out) HV.out.1 HV.out.2).mono ?_
  rintro e w4 ⟨rfl, hb⟩
  have HB4 := sA (bC HB3.out hb); have HI4 := sA (bB HI3.out hb); have HP4 := sA (bB HP3.out hb); clear hb
  obtain ⟨i1, i2⟩ := lay0 HI4.out
  obtain ⟨p1, p2⟩ := lay0 HP4.out
  go_wp2_with fail
  clear i1 i2 p1 p2
  go_at_call 150
  refine (show Calls Tryz.prog 150 #[.agg #[.slice (some ad) x.vs.length d0, .slice B1 x.qs.length d1, .slice B2 x.rs.length d2], .int .i64 kv, r, .int .i64 0] _ fun e w' => e = .returned (.int .i64 pl.o) ∧ _ from HPL.out ▸ spec_arrive0 _ _ r x (HX.out.below HB4.out) kv (HS.out.below HB4.out) HV.out.1 HV.out.2).mono ?_
  rintro e w5 ⟨rfl, hb⟩
  have HB5 := sA (bC HB4.out hb); have HI5 := sA (bB HI4.out hb); have HP5 := sA (bB HP4.out hb); clear hb
  obtain ⟨i1, i2⟩ := lay0 HI5.out
  obtain ⟨p1, p2⟩ := lay0 HP5.out
  go_wp2_with fail
  clear i1 i2 p1 p2
  go_at_call 52
  refine (spec_SatAdd _ pl.o (-pl.o)).mono ?_
  rintro e w' ⟨rfl, rfl⟩
  obtain ⟨i1, i2⟩ := lay0 HI5.out
  obtain ⟨p1, p2⟩ := lay0 HP5.out
  go_wp2_with fail
  clear i1 i2 p1 p2
  have ez : satAdd pl.o (-pl.o) = 0 := by unfold satAdd clampI; split <;> split <;> split <;> omega
  simp only [ez]
  clear q0 ez
  refine Grow.wp_region_tail 41 (by kernel_rfl) (by kernel_rfl) ?_
  dsimp only [List.take, List.drop]
  repeat ((first | (refine Grow.lexP_do _ (by rfl) (by rfl) (by intro W hj; obtain ⟨i1, i2⟩ := lay hj.out HI5.out; obtain ⟨p1, p2⟩ := lay hj.out HP5.out; have cZV := pC (bC HB5.out hj.out) ZV.out; go_simp; first | exact Grow.UponB.val | (have cc := show Calls Tryz.prog 151 #[.agg #[.slice (some ad) x.vs.length d0, .slice B1 x.qs.length d1, .slice B2 x.rs.length d2], .int .i64 kv, r, .int .i64 0] W fun e w' => e = .returned (.int .i64 0) ∧ Below W.heap.size W w' from spec_legTo W _ r x (HX.out.below (bC HB5.out hj.out)) kv [] (HS.out.below (bC HB5.out hj.out)) (route_nil HV.out.1 HV.out.2) 0 (by omega); with_reducible exact Grow.UponB.call cc) | (have cc := show Calls Tryz.prog 152 #[.agg #[.slice (some ad) x.vs.length d0, .slice B1 x.qs.length d1, .slice B2 x.rs.length d2], .int .i64 kv, r, .int .i64 0] W fun e w' => e = .returned (.int .i64 0) ∧ Below W.heap.size W w' from spec_dist kv x [] (route_nil HV.out.1 HV.out.2) 0 (by omega) W _ r (HX.out.below (bC HB5.out hj.out)) (HS.out.below (bC HB5.out hj.out)); with_reducible exact Grow.UponB.call cc) | (have cc := show Calls Tryz.prog 153 #[.agg #[.slice (some ad) x.vs.length d0, .slice B1 x.qs.length d1, .slice B2 x.rs.length d2], .int .i64 kv, r, .int .i64 0] W fun e w' => e = .returned (.int .i64 0) ∧ Below W.heap.size W w' from spec_load0 W _ r x (HX.out.below (bC HB5.out hj.out)) kv (HS.out.below (bC HB5.out hj.out)) HV.out.1 HV.out.2; with_reducible exact Grow.UponB.call cc) | (have cc := show Calls Tryz.prog 58 #[.agg #[.slice (some ad) x.vs.length d0, .slice B1 x.qs.length d1, .slice B2 x.rs.length d2], .int .i64 kv] W fun e w' => e = .returned (.int .i64 0) ∧ Below W.heap.size W w' from HZ.out.2.2 ▸ spec_size W _ x (HX.out.below (bC HB5.out hj.out)) HM.out kv; with_reducible exact Grow.UponB.call cc) | (have cc := show Calls Tryz.prog 56 #[.agg #[.slice (some ad) x.vs.length d0, .slice B1 x.qs.length d1, .slice B2 x.rs.length d2], .int .i64 kv] W fun e w' => e = .returned (.bool false) ∧ Below W.heap.size W w' from HZ.out.1 ▸ spec_pick W _ x (HX.out.below (bC HB5.out hj.out)) HM.out kv; with_reducible exact Grow.UponB.call cc) | (have cc := show Calls Tryz.prog 57 #[.agg #[.slice (some ad) x.vs.length d0, .slice B1 x.qs.length d1, .slice B2 x.rs.length d2], .int .i64 kv] W fun e w' => e = .returned (.bool false) ∧ Below W.heap.size W w' from HZ.out.2.1 ▸ spec_drop W _ x (HX.out.below (bC HB5.out hj.out)) HM.out kv; with_reducible exact Grow.UponB.call cc) | (have cc := spec_bit W false; with_reducible exact Grow.UponB.call (cc.mono fun e w' h => ⟨h.1, h.2 ▸ Below.refl _ _⟩))) ?_)); refine Grow.lexP_norm (fun K hK => ?_); go_simp; refine hK _ ?_; clear hK K)
  refine Grow.lexP_nil (fun w6 hj => ?_)
  have hb := hj.out; clear hj
  have HB6 := sA (bC HB5.out hb); have HI6 := sA (bB HI5.out hb); have HP6 := sA (bB HP5.out hb); clear hb
  go_wp2
  go_ret
  have HL := flat_lit (d := kInt) rfl w6 w.heap.size 2 (startA x kv) HB6.out.size (by unfold startA; simp)
  unfold startA at HL
  rw [HRM.out, HPL.out] at HL
  refine ⟨_, rfl, ?_, bA HB6.out _⟩
  unfold startA
  rw [HRM.out, HPL.out]
  exact HL
end
end Go.Proofs.YtlhpbpkefkabgaaGreat.L1
namespace Go.Proofs.YtlhpbpkefkabgaaGreat.L1
open Go.RowKit Go.Proofs.YtlhpbpkefkabgaaGreatW.PrintWords Go.Proofs.YtlhpbpkefkabgaaGreat.B
set_option linter.unusedVariables false
set_option linter.unusedSimpArgs false
attribute [local go_sem] mk_cell mk_frozen
/-- What is told of the makers of a region, place by place. -/
def GAt (l : List (Nat × (Value → Nat → World → Prop))) (i : Nat) (v : Value) (lo : Nat) (W : World) : Prop := ∀ P, (i, P) ∈ l → P v lo W
def RowP (base : Nat) (xs : List Int) (v : Value) (lo : Nat) (W : World) : Prop := kInt.R 2 W base (fun _ => True) v xs
def AggP (f : List Value → Value) (base : Nat) (xss : List (List Int)) (v : Value) (lo : Nat) (W : World) : Prop := ∃ vs : List Value, v = f vs ∧ vs.length = xss.length ∧ ∀ k : Nat, k < xss.length → kInt.R 2 W base (fun _ => True) (vs.getD k undef) (xss.getD k [])
def Stays (P : Value → Nat → World → Prop) : Prop := ∀ v lo W W', Below W.heap.size W W' → P v lo W → P v lo W'
theorem RowP.stays (base : Nat) (xs : List Int) : Stays (RowP base xs) := fun v lo W W' hb h => Kd.R_below h hb
def LitP (base : Nat) (v : Value) (lo : Nat) (W : World) : Prop := ∃ b : Addr, v = .slice (some b) 0 0 ∧ kInt.R 2 W base (fun _ => True) v []
theorem LitP.stays (base : Nat) : Stays (LitP base) := fun v lo W W' hb h => by
  obtain ⟨b, e, h⟩ := h
  exact ⟨b, e, Kd.R_below h hb⟩
theorem AggP.stays (f : List Value → Value) (base : Nat) (xss : List (List Int)) : Stays (AggP f base xss) := fun v lo W W' hb h => by
  obtain ⟨vs, e, hl, h⟩ := h
  exact ⟨vs, e, hl, fun k hk => Kd.R_below (h k hk) hb⟩
theorem BoxG.stays (cs : Array Value) (T : TypeId) : Stays (BoxG cs T) := fun v lo W W' hb h => ⟨h.1, bB h.2 hb⟩
def AllStay : List (Nat × (Value → Nat → World → Prop)) → Prop
  | [] => True
  | p :: t => Stays p.2 ∧ AllStay t
theorem AllStay.at : ∀ {l : List (Nat × (Value → Nat → World → Prop))}, AllStay l → ∀ p, p ∈ l → Stays p.2
  | _ :: _, h, p, hp => by
    rcases List.mem_cons.1 hp with rfl | hp
    · exact h.1
    · exact AllStay.at h.2 p hp
theorem GAt.stays {l : List (Nat × (Value → Nat → World → Prop))} (hl : AllStay l) (i : Nat) (v : Value) (lo hi : Nat) (W W' : World) (hb : Below W.heap.size W W') (h : GAt l i v lo W) : GAt l i v lo W' := fun P hP => hl.at _ hP v lo W W' hb (h P hP)
theorem GAt.at {l : List (Nat × (Value → Nat → World → Prop))} {i : Nat} {v : Value} {lo : Nat} {W : World} (h : GAt l i v lo W) {P : Value → Nat → World → Prop} (hP : (i, P) ∈ l) : P v lo W := h P hP
theorem GAt.mk {l : List (Nat × (Value → Nat → World → Prop))} {i : Nat} {v : Value} {lo : Nat} {W : World} {P : Value → Nat → World → Prop} (h : P v lo W) (hl : ∀ p, p ∈ l → p.1 = i → p.2 = P) : GAt l i v lo W := fun P' hP' => by rw [show P' = P from hl (i, P') hP' rfl]; exact h
section
variable (w : World)
theorem spec_zerosI (n : Int) (h0 : 0 ≤ n) (hn : n ≤ 2000000) : Calls Tryz.prog 111 #[.int .i64 n] w fun e w' => ∃ v, e = .returned v ∧ kInt.R 2 w' w.heap.size (fun _ => True) v (zeroS n) ∧ Below w.heap.size w w' := by
  obtain ⟨k, rfl⟩ := Int.eq_ofNat_of_zero_le h0
  exact spec_zeros w k (by omega)
/-- An empty literal. -/
theorem lit_empty (base : Nat) (hb : base ≤ w.heap.size) : kInt.R 2 (w.alloc (.cells #[] 2)) base (fun _ => True) (.slice (some ⟨w.heap.size, 0, none⟩) 0 0) [] :=
  flat_lit (d := kInt) rfl w base 2 [] hb (by simp)
/-- append(empty literal, row...). -/
theorem app_empty (base : Nat) (hb : base ≤ w.heap.size) (ty : TypeId) (b : Addr) (A : Option Addr) (c : Nat) (ys : List Int) (h0 : kInt.R 2 w base (fun _ => True) (.slice (some b) 0 0) []) (hA : kInt.C w A ys.length ys) (hl : ys.length ≤ 2000000) :
    ∃ v w', (Builtin.append_ #[30, 30] ty #[.slice (some b) 0 0, .slice A ys.length c]).run Tryz.prog w = .ok v w' ∧ kInt.R 2 w' base (fun _ => True) v ys ∧ Below w.heap.size w w' := by
  have ht : Tryz.prog.underlying 30 = some (.slice 2) := by kernel_rfl
  have hinfo : (Tryz.prog.info? 2).map (fun i => (i.zero.map (·.cells.toList), i.size, i.bytes)) = some (some [.int .i64 0], 1, 8) := by kernel_rfl
  obtain ⟨i0, hi, hzz⟩ := Option.map_eq_some_iff.1 hinfo
  simp only [Prod.mk.injEq] at hzz
  obtain ⟨hz0, hz1, hz2⟩ := hzz
  obtain ⟨z, hz3, hz4⟩ := Option.map_eq_some_iff.1 hz0
  cases ys with
  | nil =>
    refine ⟨_, w, ?_, h0, Below.refl _ _⟩
    rcases A with _ | ad <;> simp [Builtin.append_, run_underlying ht, sizeOf, typeInfo, hi, Builtin.lenOf, Builtin.firstCells, storeCells, loadCells, loadCellsFrom]
  | cons y t =>
    obtain ⟨ad, rfl, hc⟩ := hA.2.2 (by simp)
    have hcells : ∀ j u, ((y :: t).flatMap (fun n => [Value.int .i64 n]))[j]? = some u → w.cell? (ad.add j) = some u := by
      intro j u hu
      obtain ⟨p, hp, hpu⟩ := flat_get (enc := fun n => [Value.int .i64 n]) (fun _ => rfl) (by decide) hu
      obtain ⟨c0, _, hc1, hc2⟩ := hc (j / 1) p hp
      have hc1' : c0 = [Value.int .i64 p] := hc1
      subst hc1'
      have := hc2 (j % 1) u hpu
      rwa [show j / 1 * kInt.sz + j % 1 = j from by show j / 1 * 1 + j % 1 = j; omega] at this
    obtain ⟨v', w', hr, ho, hg⟩ := run_append_arg_grows (P := Tryz.prog) w 30 ty 2 i0 z 1 8 ht hi hz3 hz1 hz2 (by rw [← Array.length_toList, hz4]; rfl) (by decide) b 0 0 [] (by simp) (by intro j u h; simp at h) ad (y :: t).length c ((y :: t).flatMap (fun n => [Value.int .i64 n])) (by rw [(reps_flat (enc := fun n => [Value.int .i64 n]) (fun _ => rfl) (y :: t)).1]) hcells (by simp) (by simp only [maxLen]; omega) (by omega)
    have hbl : Below w.heap.size w w' := (Below.refl w.heap.size w).grown hg (Nat.le_refl _) (fun k hk => by cases hk)
    refine ⟨v', w', hr, ⟨fun _ _ => trivial, _, own_weaken ?_ hb, reps_flat (enc := fun n => [Value.int .i64 n]) (fun _ => rfl) (y :: t)⟩, hbl⟩
    have e : 0 + (y :: t).length = (y :: t).length := Nat.zero_add _
    rw [e, List.nil_append] at ho
    exact ho
set_option maxRecDepth 100000 in
set_option maxHeartbeats 2000000 in
theorem spec_failed (p r : Int) : Calls Tryz.prog 113 #[.int .i64 p, .int .i64 r] w fun e w' => e = .returned (.agg #[.int .i64 p, .int .i64 r, .int .i64 0, .int .i64 0, .int .i64 0, .int .i64 0, .slice none 0 0, .slice none 0 0, .slice none 0 0]) ∧ Below w.heap.size w w' := by
  have hX0 := al_new w (.cells #[.int .i64 0, .int .i64 0, .int .i64 0, .int .i64 0, .int .i64 0, .int .i64 0, .slice none 0 0, .slice none 0 0, .slice none 0 0] 49)
  have HB0 := sA (bA (Below.refl w.heap.size w) (.cells #[.int .i64 0, .int .i64 0, .int .i64 0, .int .i64 0, .int .i64 0, .int .i64 0, .slice none 0 0, .slice none 0 0, .slice none 0 0] 49))
  have HX0 := sA hX0; clear hX0
  go_enter Tryz.func113, Tryz.ntmps113
  go_wp2_with ((with_reducible refine gate_store (t := 49) (p := 4) rfl ?_); refine wpList_putAll rfl rfl _ _ _ rfl (g := w.heap.size) [.int .i64 p, .int .i64 r, .int .i64 0, .int .i64 0, .int .i64 0, .int .i64 0, .slice none 0 0, .slice none 0 0, .slice none 0 0] rfl rfl (by kernel_rfl) (one_all rfl) HX0.out rfl ?_; intro wz hX hT hz; clear hz; have HBz := sA (hT.below w (fun k hk => by rw [hk]; omega) HB0.out); have HKz := sA hX; clear hX hT)
  exact bodyPost_ret (results_cell Tryz.results113 rfl HKz.out Tryz.underlying49 rfl (by kernel_rfl)) rfl ⟨rfl, HBz.out⟩
end
theorem notin_none (n : Nat) (F : Nat → Prop) : NotIn none n F := fun ad h => by cases h
/-- A state that is read, its rows apart from the blocks of F. -/
def ReadStN (w : World) (v : Value) (x : St) (F : Nat → Prop) : Prop := ∃ A0 c0 A1 c1 A2 c2, v = .agg #[.int .i64 x.pos, .int .i64 x.rule, .int .i64 x.node, .int .i64 x.time, .int .i64 x.dist, .int .i64 x.load, .slice A0 x.s0.length c0, .slice A1 x.s1.length c1, .slice A2 x.s2.length c2] ∧
  kInt.C w A0 x.s0.length x.s0 ∧ kInt.C w A1 x.s1.length x.s1 ∧ kInt.C w A2 x.s2.length x.s2 ∧ x.s1.length ≤ c1 ∧ NotIn A0 x.s0.length F ∧ NotIn A1 x.s1.length F ∧ NotIn A2 x.s2.length F
theorem ReadStN.readC {w : World} {v : Value} {x : St} {F : Nat → Prop} (h : ReadStN w v x F) : ReadStC w v x := by
  obtain ⟨A0, c0, A1, c1, A2, c2, e, h0, h1, h2, hc, _⟩ := h
  exact ⟨A0, c0, A1, c1, A2, c2, e, h0, h1, h2, hc⟩
theorem ReadStN.below {w w1 : World} {v : Value} {x : St} {F : Nat → Prop} (h : ReadStN w v x F) (hb : Below w.heap.size w w1) : ReadStN w1 v x F := by
  obtain ⟨A0, c0, A1, c1, A2, c2, e, h0, h1, h2, hc, n⟩ := h
  exact ⟨A0, c0, A1, c1, A2, c2, e, Kd.C_below h0 hb, Kd.C_below h1 hb, Kd.C_below h2 hb, hc, n⟩
theorem ReadStN.imp {w : World} {v : Value} {x : St} {F G : Nat → Prop} (h : ReadStN w v x F) (hg : ∀ k, G k → F k) : ReadStN w v x G := by
  obtain ⟨A0, c0, A1, c1, A2, c2, e, h0, h1, h2, hc, n0, n1, n2⟩ := h
  exact ⟨A0, c0, A1, c1, A2, c2, e, h0, h1, h2, hc, fun a b d f => n0 a b d (hg _ f), fun a b d f => n1 a b d (hg _ f), fun a b d f => n2 a b d (hg _ f)⟩
theorem readStN_failed (W : World) (p r : Int) (F : Nat → Prop) : ReadStN W (.agg #[.int .i64 p, .int .i64 r, .int .i64 0, .int .i64 0, .int .i64 0, .int .i64 0, .slice none 0 0, .slice none 0 0, .slice none 0 0]) (failS p r) F :=
  ⟨none, 0, none, 0, none, 0, rfl, Kd.C_nil kInt W, Kd.C_nil kInt W, Kd.C_nil kInt W, Nat.le_refl 0, notin_none _ _, notin_none _ _, notin_none _ _⟩
/-- A state whose rows are whole blocks of numbers. -/
def RState (w : World) (v : Value) (x : St) : Prop := ∃ v0 v1 v2, v = .agg #[.int .i64 x.pos, .int .i64 x.rule, .int .i64 x.node, .int .i64 x.time, .int .i64 x.dist, .int .i64 x.load, v0, v1, v2] ∧
  kInt.R 2 w 0 (fun _ => True) v0 x.s0 ∧ kInt.R 2 w 0 (fun _ => True) v1 x.s1 ∧ kInt.R 2 w 0 (fun _ => True) v2 x.s2
theorem RState.below {w w1 : World} {v : Value} {x : St} (h : RState w v x) (hb : Below w.heap.size w w1) : RState w1 v x := by
  obtain ⟨v0, v1, v2, e, h0, h1, h2⟩ := h
  exact ⟨v0, v1, v2, e, Kd.R_below h0 hb, Kd.R_below h1 hb, Kd.R_below h2 hb⟩
theorem RState.tch {w w1 : World} {v : Value} {x : St} (h : RState w v x) {b : Nat} {cs : Array Value} {T : TypeId} (ht : Tch (fun k => k = b) w w1) (hb : w.heap[b]? = some (.cells cs T (0, 0))) (hne : 2 ≠ T) : RState w1 v x := by
  obtain ⟨v0, v1, v2, e, h0, h1, h2⟩ := h
  exact ⟨v0, v1, v2, e, row_tch h0 ht hb hne, row_tch h1 ht hb hne, row_tch h2 ht hb hne⟩
theorem rstate_failed (W : World) (p r : Int) : RState W (.agg #[.int .i64 p, .int .i64 r, .int .i64 0, .int .i64 0, .int .i64 0, .int .i64 0, .slice none 0 0, .slice none 0 0, .slice none 0 0]) (failS p r) :=
  ⟨_, _, _, rfl, Kd.R_nil _ _ _ _ _, Kd.R_nil _ _ _ _ _, Kd.R_nil _ _ _ _ _⟩
/-- append among the operations of a drawn region. -/
theorem upon_append {P : Program} {R : Value → World → Prop} {W : World} {o : Oper} {a : Act} {s x : Operand} {t : TypeId} {vs vx v1 : Value} {w1 : World} (ho : o.op = .call { callee := .builtin .append, args := #[s, x], argTypes := #[t, t] }) (hs : a.eval s = vs) (hx : a.eval x = vx)
    (hr : (Builtin.append_ #[t, t] o.type #[vs, vx]).run P W = .ok v1 w1) (h : R v1 w1) (hb : Below W.heap.size W w1) : Grow.UponB P R W ((execOp a.eval o).run P W) := by
  unfold execOp
  simp only [ho, resolve, invoke, builtin, Sem.run_bind, Sem.run_pure, Result.andThen_ok, List.map_toArray, List.map_cons, List.map_nil, hs, hx, hr]
  exact ⟨h, hb⟩
/-- The slots written out anew. -/
theorem wpl_norm {P : Program} {ops : Array Oper} {Q : Exit → Act → World → Prop} {rest : List Oper} {a : Act} {W : World} (h : ∀ K : Act → Prop, (∀ a', wpList P ops Q rest a' W → K a') → K a) : wpList P ops Q rest a W := h (fun a' => wpList P ops Q rest a' W) fun _ h => h
/-- A row that is read stays behind a write elsewhere. -/
theorem c_tch {W W' : World} {A : Option Addr} {n : Nat} {xs : List Int} {F : Nat → Prop} {b : Nat} (h : kInt.C W A n xs) (hn : NotIn A n F) (ht : Tch (fun k => k = b) W W') (hb : F b) : kInt.C W' A n xs :=
  int_move h fun ad he hp => ht.same ad.block (int_lt h he hp) (fun e => hn ad he hp (by rw [e]; exact hb))
end Go.Proofs.YtlhpbpkefkabgaaGreat.L1
