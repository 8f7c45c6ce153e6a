/- The places of an instance's nodes, as the reference and the program tell them. -/
import Derived.Test.YtmjpajaeffhdeaaL1g
namespace Go.Proofs.Ytmjpajaeffhdeaa.L1
open Go.RowKit Go.Proofs.YtmjpajaeffhdeaaW.PrintWords Go.Proofs.Ytmjpajaeffhdeaa.B
set_option linter.unusedVariables false
set_option linter.unusedSimpArgs false
attribute [local go_sem] mk_cell mk_frozen
/-- The place of a node. -/
def Inst.placeAt (x : Inst) (n : Int) : Place :=
  if n < x.vs.length then (x.vs.getD n.toNat zV).home
  else if (n - x.vs.length).tmod 2 = 0 then (x.qs.getD ((n - x.vs.length).tdiv 2).toNat zQ).from_ else (x.qs.getD ((n - x.vs.length).tdiv 2).toNat zQ).to_
/-- The cells of a place from an address on. -/
def Place.On (p : Place) (w : World) (b o : Nat) : Prop := w.cell? ⟨b, o, none⟩ = some (.int .i64 p.x) ∧ w.cell? ⟨b, o + 1, none⟩ = some (.int .i64 p.y) ∧ w.cell? ⟨b, o + 2, none⟩ = some (.int .i64 p.o) ∧ w.cell? ⟨b, o + 3, none⟩ = some (.int .i64 p.c) ∧ w.cell? ⟨b, o + 4, none⟩ = some (.int .i64 p.h)
theorem Place.On.below {p : Place} {w w1 : World} {b o : Nat} (h : p.On w b o) (hb : Below w.heap.size w w1) : p.On w1 b o := ⟨pw_cell_below hb h.1, pw_cell_below hb h.2.1, pw_cell_below hb h.2.2.1, pw_cell_below hb h.2.2.2.1, pw_cell_below hb h.2.2.2.2⟩
theorem Inst.place_v {x : Inst} {k : Nat} (h : k < x.vs.length) : x.placeAt k = (x.vs.getD k zV).home := by unfold Inst.placeAt; rw [if_pos (by omega)]; rfl
theorem Inst.place_q {x : Inst} {k q : Nat} (h : k = x.vs.length + 2 * q) : x.placeAt k = (x.qs.getD q zQ).from_ := by
  unfold Inst.placeAt
  rw [if_neg (by omega), show (k : Int) - x.vs.length = ((2 * q : Nat) : Int) by omega, if_pos (by show ((2 * q : Nat) : Int).tmod ((2 : Nat) : Int) = 0; rw [← Int.ofNat_tmod]; omega), show (((2 * q : Nat) : Int).tdiv 2).toNat = q by rw [show (2 : Int) = ((2 : Nat) : Int) from rfl, ← Int.ofNat_tdiv]; simp]
theorem Inst.place_q' {x : Inst} {k q : Nat} (h : k = x.vs.length + (2 * q + 1)) : x.placeAt k = (x.qs.getD q zQ).to_ := by
  unfold Inst.placeAt
  rw [if_neg (by omega), show (k : Int) - x.vs.length = ((2 * q + 1 : Nat) : Int) by omega, if_neg (by show ¬((2 * q + 1 : Nat) : Int).tmod ((2 : Nat) : Int) = 0; rw [← Int.ofNat_tmod]; omega), show (((2 * q + 1 : Nat) : Int).tdiv 2).toNat = q by rw [show (2 : Int) = ((2 : Nat) : Int) from rfl, ← Int.ofNat_tdiv]; omega]
section
variable (w : World)
set_option maxRecDepth 100000 in
set_option maxHeartbeats 1000000 in
theorem spec_placeOf (v : Value) (x : Inst) (hr : ReadInst w v x) (f0 : x.vs.length ≤ 64) (f1 : x.qs.length ≤ 1000) (n : Int) (h0 : 0 ≤ n) (h1 : n < x.nodes) : Calls Try.prog 129 #[v, .int .i64 n] w fun e w' => e = .returned (x.placeAt n).val ∧ Below w.heap.size w w' := by
  obtain ⟨A0, c0, A1, c1, A2, c2, rfl, r0, r1, r2⟩ := hr
  obtain ⟨k, rfl⟩ : ∃ k : Nat, n = k := ⟨n.toNat, by omega⟩
  clear h0 r2
  have h2 : k < x.vs.length + 2 * x.qs.length := by unfold Inst.nodes at h1; omega
  clear h1
  rcases Nat.lt_or_ge k x.vs.length with hlt | hge
  · have hp := Inst.place_v hlt
    obtain ⟨ad, e0, t0, t1⟩ := Kd.flat_cells (d := kVeh) rfl r0 zV k hlt
    cases e0
    generalize x.vs.getD k zV = y at t0 t1 hp
    have HP := Aside0.mk hp; clear hp r0 r1
    have HO : y.home.On w (ad.add (k * 7)).block ((ad.add (k * 7)).off + 2) := ⟨t1 1 _ rfl, t1 2 _ rfl, t1 3 _ rfl, t1 4 _ rfl, t1 5 _ rfl⟩
    have hd : decide ((k : Int) < (x.vs.length : Int)) = true := by simp; omega
    go_enter Try.func129, Try.ntmps129
    have HO2 := HO.below (below_alloc (below_alloc (Below.refl w.heap.size w) (.cells #[.slice (some ad) x.vs.length c0, .slice A1 x.qs.length c1, .slice A2 x.rs.length c2] 55)) (.cells #[.int .i64 0, .int .i64 0, .int .i64 0, .int .i64 0, .int .i64 0] 107))
    have HR2 := fun j u h => pw_cell_below (below_alloc (below_alloc (Below.refl w.heap.size w) (.cells #[.slice (some ad) x.vs.length c0, .slice A1 x.qs.length c1, .slice A2 x.rs.length c2] 55)) (.cells #[.int .i64 0, .int .i64 0, .int .i64 0, .int .i64 0, .int .i64 0] 107)) (t1 j u h)
    have HR0 := fun u h => pw_cell_below (below_alloc (below_alloc (Below.refl w.heap.size w) (.cells #[.slice (some ad) x.vs.length c0, .slice A1 x.qs.length c1, .slice A2 x.rs.length c2] 55)) (.cells #[.int .i64 0, .int .i64 0, .int .i64 0, .int .i64 0, .int .i64 0] 107)) (t0 u h)
    clear t0 t1 HO
    obtain ⟨s0, s1, s2, s3, s4⟩ := HO2
    clear HR0 HR2
    go_wp2
    refine bodyPost_ret (v := .agg #[.int .i64 y.home.x, .int .i64 y.home.y, .int .i64 y.home.o, .int .i64 y.home.c, .int .i64 y.home.h]) (by simp [results, Try.results129, go_sem]) rfl ⟨by rw [HP.out]; rfl, ?_⟩
    with_reducible repeat (first | refine bel_set ?_ (by omega) _ | refine below_alloc ?_ _ | exact Below.refl _ _)
  have hd : decide ((k : Int) < (x.vs.length : Int)) = false := by simp; omega
  rcases Nat.mod_two_eq_zero_or_one (k - x.vs.length) with hm | hm
  · obtain ⟨q, hq⟩ : ∃ q, k = x.vs.length + (2 * q) := ⟨(k - x.vs.length) / 2, by omega⟩
    have hp := Inst.place_q hq
    obtain ⟨ad, e0, t0, t1⟩ := Kd.flat_cells (d := kReq) rfl r1 zQ q (by omega)
    cases e0
    generalize x.qs.getD q zQ = y at t0 t1 hp
    have HP := Aside0.mk hp; clear hp r0 r1
    have HO : y.from_.On w (ad.add (q * 12)).block ((ad.add (q * 12)).off + 2) := ⟨t1 1 _ rfl, t1 2 _ rfl, t1 3 _ rfl, t1 4 _ rfl, t1 5 _ rfl⟩
    obtain ⟨m, hm'⟩ : ∃ m, m = 2 * q := ⟨_, rfl⟩
    have q0 : IntKind.i64.wrap ((k : Int) - (x.vs.length : Int)) = (m : Int) := by rw [IntWalk.i64_in _ (by omega)]; omega
    have q1 : wrap64 ((m : Int) / 2) = (q : Int) := by rw [show (m : Int) / 2 = (q : Int) by omega]; exact IntWalk.wrap64_in _ (by omega)
    have q2 : wrap64 ((m : Int) % 2) = 0 := by rw [show (m : Int) % 2 = 0 by omega]; exact IntWalk.wrap64_in _ (by omega)
    have q4 : (m : Int) / 2 = (q : Int) := by omega
    have q5 : (m : Int) % 2 = 0 := by omega
    have q3 : q < x.qs.length := by omega
    clear hm h2 hq hm'
    go_enter Try.func129, Try.ntmps129
    have HO2 := HO.below (below_alloc (below_alloc (Below.refl w.heap.size w) (.cells #[.slice A0 x.vs.length c0, .slice (some ad) x.qs.length c1, .slice A2 x.rs.length c2] 55)) (.cells #[.int .i64 0, .int .i64 0, .int .i64 0, .int .i64 0, .int .i64 0] 107))
    have HR2 := fun j u h => pw_cell_below (below_alloc (below_alloc (Below.refl w.heap.size w) (.cells #[.slice A0 x.vs.length c0, .slice (some ad) x.qs.length c1, .slice A2 x.rs.length c2] 55)) (.cells #[.int .i64 0, .int .i64 0, .int .i64 0, .int .i64 0, .int .i64 0] 107)) (t1 j u h)
    have HR0 := fun u h => pw_cell_below (below_alloc (below_alloc (Below.refl w.heap.size w) (.cells #[.slice A0 x.vs.length c0, .slice (some ad) x.qs.length c1, .slice A2 x.rs.length c2] 55)) (.cells #[.int .i64 0, .int .i64 0, .int .i64 0, .int .i64 0, .int .i64 0] 107)) (t0 u h)
    clear t0 t1 HO
    have s0 := HR0 _ rfl; have s1 := HR2 0 _ rfl; have s2 := HR2 1 _ rfl; have s3 := HR2 2 _ rfl; have s4 := HR2 3 _ rfl; have s5 := HR2 4 _ rfl; have s6 := HR2 5 _ rfl; have s7 := HR2 6 _ rfl; have s8 := HR2 7 _ rfl; have s9 := HR2 8 _ rfl; have s10 := HR2 9 _ rfl; have s11 := HR2 10 _ rfl
    clear HR0 HR2
    go_wp2
    refine bodyPost_ret (v := .agg #[.int .i64 y.from_.x, .int .i64 y.from_.y, .int .i64 y.from_.o, .int .i64 y.from_.c, .int .i64 y.from_.h]) (by simp [results, Try.results129, go_sem]) rfl ⟨by rw [HP.out]; rfl, ?_⟩
    with_reducible repeat (first | refine bel_set ?_ (by omega) _ | refine below_alloc ?_ _ | exact Below.refl _ _)
  · obtain ⟨q, hq⟩ : ∃ q, k = x.vs.length + (2 * q + 1) := ⟨(k - x.vs.length) / 2, by omega⟩
    have hp := Inst.place_q' hq
    obtain ⟨ad, e0, t0, t1⟩ := Kd.flat_cells (d := kReq) rfl r1 zQ q (by omega)
    cases e0
    generalize x.qs.getD q zQ = y at t0 t1 hp
    have HP := Aside0.mk hp; clear hp r0 r1
    have HO : y.to_.On w (ad.add (q * 12)).block ((ad.add (q * 12)).off + 7) := ⟨t1 6 _ rfl, t1 7 _ rfl, t1 8 _ rfl, t1 9 _ rfl, t1 10 _ rfl⟩
    obtain ⟨m, hm'⟩ : ∃ m, m = 2 * q + 1 := ⟨_, rfl⟩
    have q0 : IntKind.i64.wrap ((k : Int) - (x.vs.length : Int)) = (m : Int) := by rw [IntWalk.i64_in _ (by omega)]; omega
    have q1 : wrap64 ((m : Int) / 2) = (q : Int) := by rw [show (m : Int) / 2 = (q : Int) by omega]; exact IntWalk.wrap64_in _ (by omega)
    have q2 : wrap64 ((m : Int) % 2) = 1 := by rw [show (m : Int) % 2 = 1 by omega]; exact IntWalk.wrap64_in _ (by omega)
    have q4 : (m : Int) / 2 = (q : Int) := by omega
    have q5 : (m : Int) % 2 = 1 := by omega
    have q3 : q < x.qs.length := by omega
    clear hm h2 hq hm'
    go_enter Try.func129, Try.ntmps129
    have HO2 := HO.below (below_alloc (below_alloc (Below.refl w.heap.size w) (.cells #[.slice A0 x.vs.length c0, .slice (some ad) x.qs.length c1, .slice A2 x.rs.length c2] 55)) (.cells #[.int .i64 0, .int .i64 0, .int .i64 0, .int .i64 0, .int .i64 0] 107))
    have HR2 := fun j u h => pw_cell_below (below_alloc (below_alloc (Below.refl w.heap.size w) (.cells #[.slice A0 x.vs.length c0, .slice (some ad) x.qs.length c1, .slice A2 x.rs.length c2] 55)) (.cells #[.int .i64 0, .int .i64 0, .int .i64 0, .int .i64 0, .int .i64 0] 107)) (t1 j u h)
    have HR0 := fun u h => pw_cell_below (below_alloc (below_alloc (Below.refl w.heap.size w) (.cells #[.slice A0 x.vs.length c0, .slice (some ad) x.qs.length c1, .slice A2 x.rs.length c2] 55)) (.cells #[.int .i64 0, .int .i64 0, .int .i64 0, .int .i64 0, .int .i64 0] 107)) (t0 u h)
    clear t0 t1 HO
    have s0 := HR0 _ rfl; have s1 := HR2 0 _ rfl; have s2 := HR2 1 _ rfl; have s3 := HR2 2 _ rfl; have s4 := HR2 3 _ rfl; have s5 := HR2 4 _ rfl; have s6 := HR2 5 _ rfl; have s7 := HR2 6 _ rfl; have s8 := HR2 7 _ rfl; have s9 := HR2 8 _ rfl; have s10 := HR2 9 _ rfl; have s11 := HR2 10 _ rfl
    clear HR0 HR2
    go_wp2
    refine bodyPost_ret (v := .agg #[.int .i64 y.to_.x, .int .i64 y.to_.y, .int .i64 y.to_.o, .int .i64 y.to_.c, .int .i64 y.to_.h]) (by simp [results, Try.results129, go_sem]) rfl ⟨by rw [HP.out]; rfl, ?_⟩
    with_reducible repeat (first | refine bel_set ?_ (by omega) _ | refine below_alloc ?_ _ | exact Below.refl _ _)
set_option maxRecDepth 100000 in
set_option maxHeartbeats 1000000 in
theorem impl_place (v : Value) (x : Inst) (hr : ReadInst w v x) (f0 : x.vs.length ≤ 64) (f1 : x.qs.length ≤ 1000) (n : Int) (h0 : 0 ≤ n) (h1 : n < x.nodes) : Calls Try.prog 131 #[v, .int .i64 n] w fun e w' => e = .returned (x.placeAt n).val ∧ Below w.heap.size w w' := by
  obtain ⟨A0, c0, A1, c1, A2, c2, rfl, r0, r1, r2⟩ := hr
  obtain ⟨k, rfl⟩ : ∃ k : Nat, n = k := ⟨n.toNat, by omega⟩
  clear h0 r2
  have h2 : k < x.vs.length + 2 * x.qs.length := by unfold Inst.nodes at h1; omega
  clear h1
  rcases Nat.lt_or_ge k x.vs.length with hlt | hge
  · have hp := Inst.place_v hlt
    obtain ⟨ad, e0, t0, t1⟩ := Kd.flat_cells (d := kVeh) rfl r0 zV k hlt
    cases e0
    generalize x.vs.getD k zV = y at t0 t1 hp
    have HP := Aside0.mk hp; clear hp r0 r1
    have HO : y.home.On w (ad.add (k * 7)).block ((ad.add (k * 7)).off + 2) := ⟨t1 1 _ rfl, t1 2 _ rfl, t1 3 _ rfl, t1 4 _ rfl, t1 5 _ rfl⟩
    have hd : decide ((k : Int) < (x.vs.length : Int)) = true := by simp; omega
    go_enter Try.func131, Try.ntmps131
    clear t0 t1
    go_wp2_with fail
    have HB := Aside0.mk (below_alloc (below_alloc (Below.refl w.heap.size w) (.cells #[.slice (some ad) x.vs.length c0, .slice A1 x.qs.length c1, .slice A2 x.rs.length c2] 55)) (.cells #[.int .i64 0, .int .i64 0, .int .i64 0, .int .i64 0, .int .i64 0] 107))
    have HI := Aside0.mk (blk_box (al_new w (.cells #[.slice (some ad) x.vs.length c0, .slice A1 x.qs.length c1, .slice A2 x.rs.length c2] 55)) (.cells #[.int .i64 0, .int .i64 0, .int .i64 0, .int .i64 0, .int .i64 0] 107))
    have HZ := Aside0.mk (show ((w.alloc (.cells #[.slice (some ad) x.vs.length c0, .slice A1 x.qs.length c1, .slice A2 x.rs.length c2] 55)).alloc (.cells #[.int .i64 0, .int .i64 0, .int .i64 0, .int .i64 0, .int .i64 0] 107)).heap[w.heap.size + 1]? = some (.cells #[.int .i64 0, .int .i64 0, .int .i64 0, .int .i64 0, .int .i64 0] 107 (0, 0)) from by rw [← al_size w (.cells #[.slice (some ad) x.vs.length c0, .slice A1 x.qs.length c1, .slice A2 x.rs.length c2] 55)]; exact al_new _ _)
    go_at_call 98
    refine (impl_vehicles _ (some ad) A1 A2 x.vs.length x.qs.length x.rs.length c0 c1 c2 (by omega)).mono ?_
    rintro e w2 ⟨rfl, hb⟩
    replace HB := Aside0.mk (bel_call HB.out hb); replace HI := Aside0.mk (blk_below HI.out hb); replace HZ := Aside0.mk (blk_below HZ.out hb); clear hb
    obtain ⟨b1, b2⟩ := lay (Below.refl _ _) HI.out
    obtain ⟨d1, d2⟩ := lay (Below.refl _ _) HZ.out
    obtain ⟨s0, s1, s2, s3, s4⟩ := HO.below HB.out
    go_wp2
    refine bodyPost_ret (v := .agg #[.int .i64 y.home.x, .int .i64 y.home.y, .int .i64 y.home.o, .int .i64 y.home.c, .int .i64 y.home.h]) (by simp [results, Try.results131, go_sem, d1, d2]) rfl ⟨by rw [HP.out]; rfl, ?_⟩
    with_reducible repeat (first | exact HB.out | refine bel_set ?_ (by omega) _ | refine below_alloc ?_ _ | exact Below.refl _ _)
  have hd : decide ((k : Int) < (x.vs.length : Int)) = false := by simp; omega
  rcases Nat.mod_two_eq_zero_or_one (k - x.vs.length) with hm | hm
  · obtain ⟨q, hq⟩ : ∃ q, k = x.vs.length + (2 * q) := ⟨(k - x.vs.length) / 2, by omega⟩
    have hp := Inst.place_q hq
    obtain ⟨ad, e0, t0, t1⟩ := Kd.flat_cells (d := kReq) rfl r1 zQ q (by omega)
    cases e0
    generalize x.qs.getD q zQ = y at t0 t1 hp
    have HP := Aside0.mk hp; clear hp r0 r1
    have HO : y.from_.On w (ad.add (q * 12)).block ((ad.add (q * 12)).off + 2) := ⟨t1 1 _ rfl, t1 2 _ rfl, t1 3 _ rfl, t1 4 _ rfl, t1 5 _ rfl⟩
    obtain ⟨m, hm'⟩ : ∃ m, m = 2 * q := ⟨_, rfl⟩
    have q0 : IntKind.i64.wrap ((k : Int) - (x.vs.length : Int)) = (m : Int) := by rw [IntWalk.i64_in _ (by omega)]; omega
    have q1 : wrap64 ((m : Int) / 2) = (q : Int) := by rw [show (m : Int) / 2 = (q : Int) by omega]; exact IntWalk.wrap64_in _ (by omega)
    have q2 : wrap64 ((m : Int) % 2) = 0 := by rw [show (m : Int) % 2 = 0 by omega]; exact IntWalk.wrap64_in _ (by omega)
    have q4 : (m : Int) / 2 = (q : Int) := by omega
    have q5 : (m : Int) % 2 = 0 := by omega
    have q3 : q < x.qs.length := by omega
    clear hm h2 hq hm'
    go_enter Try.func131, Try.ntmps131
    clear t0 t1
    go_wp2_with fail
    have HB := Aside0.mk (below_alloc (below_alloc (Below.refl w.heap.size w) (.cells #[.slice A0 x.vs.length c0, .slice (some ad) x.qs.length c1, .slice A2 x.rs.length c2] 55)) (.cells #[.int .i64 0, .int .i64 0, .int .i64 0, .int .i64 0, .int .i64 0] 107))
    have HI := Aside0.mk (blk_box (al_new w (.cells #[.slice A0 x.vs.length c0, .slice (some ad) x.qs.length c1, .slice A2 x.rs.length c2] 55)) (.cells #[.int .i64 0, .int .i64 0, .int .i64 0, .int .i64 0, .int .i64 0] 107))
    have HZ := Aside0.mk (show ((w.alloc (.cells #[.slice A0 x.vs.length c0, .slice (some ad) x.qs.length c1, .slice A2 x.rs.length c2] 55)).alloc (.cells #[.int .i64 0, .int .i64 0, .int .i64 0, .int .i64 0, .int .i64 0] 107)).heap[w.heap.size + 1]? = some (.cells #[.int .i64 0, .int .i64 0, .int .i64 0, .int .i64 0, .int .i64 0] 107 (0, 0)) from by rw [← al_size w (.cells #[.slice A0 x.vs.length c0, .slice (some ad) x.qs.length c1, .slice A2 x.rs.length c2] 55)]; exact al_new _ _)
    go_at_call 98
    refine (impl_vehicles _ A0 (some ad) A2 x.vs.length x.qs.length x.rs.length c0 c1 c2 (by omega)).mono ?_
    rintro e w2 ⟨rfl, hb⟩
    replace HB := Aside0.mk (bel_call HB.out hb); replace HI := Aside0.mk (blk_below HI.out hb); replace HZ := Aside0.mk (blk_below HZ.out hb); clear hb
    obtain ⟨b1, b2⟩ := lay (Below.refl _ _) HI.out
    go_wp2_with fail
    clear b1 b2
    go_at_call 98
    refine (impl_vehicles _ A0 (some ad) A2 x.vs.length x.qs.length x.rs.length c0 c1 c2 (by omega)).mono ?_
    rintro e w3 ⟨rfl, hb⟩
    replace HB := Aside0.mk (bel_call HB.out hb); replace HI := Aside0.mk (blk_below HI.out hb); replace HZ := Aside0.mk (blk_below HZ.out hb); clear hb
    obtain ⟨b1, b2⟩ := lay (Below.refl _ _) HI.out
    obtain ⟨d1, d2⟩ := lay (Below.refl _ _) HZ.out
    obtain ⟨s0, s1, s2, s3, s4⟩ := HO.below HB.out
    go_wp2
    refine bodyPost_ret (v := .agg #[.int .i64 y.from_.x, .int .i64 y.from_.y, .int .i64 y.from_.o, .int .i64 y.from_.c, .int .i64 y.from_.h]) (by simp [results, Try.results131, go_sem, d1, d2]) rfl ⟨by rw [HP.out]; rfl, ?_⟩
    with_reducible repeat (first | exact HB.out | refine bel_set ?_ (by omega) _ | refine below_alloc ?_ _ | exact Below.refl _ _)
  · obtain ⟨q, hq⟩ : ∃ q, k = x.vs.length + (2 * q + 1) := ⟨(k - x.vs.length) / 2, by omega⟩
    have hp := Inst.place_q' hq
    obtain ⟨ad, e0, t0, t1⟩ := Kd.flat_cells (d := kReq) rfl r1 zQ q (by omega)
    cases e0
    generalize x.qs.getD q zQ = y at t0 t1 hp
    have HP := Aside0.mk hp; clear hp r0 r1
    have HO : y.to_.On w (ad.add (q * 12)).block ((ad.add (q * 12)).off + 7) := ⟨t1 6 _ rfl, t1 7 _ rfl, t1 8 _ rfl, t1 9 _ rfl, t1 10 _ rfl⟩
    obtain ⟨m, hm'⟩ : ∃ m, m = 2 * q + 1 := ⟨_, rfl⟩
    have q0 : IntKind.i64.wrap ((k : Int) - (x.vs.length : Int)) = (m : Int) := by rw [IntWalk.i64_in _ (by omega)]; omega
    have q1 : wrap64 ((m : Int) / 2) = (q : Int) := by rw [show (m : Int) / 2 = (q : Int) by omega]; exact IntWalk.wrap64_in _ (by omega)
    have q2 : wrap64 ((m : Int) % 2) = 1 := by rw [show (m : Int) % 2 = 1 by omega]; exact IntWalk.wrap64_in _ (by omega)
    have q4 : (m : Int) / 2 = (q : Int) := by omega
    have q5 : (m : Int) % 2 = 1 := by omega
    have q3 : q < x.qs.length := by omega
    clear hm h2 hq hm'
    go_enter Try.func131, Try.ntmps131
    clear t0 t1
    go_wp2_with fail
    have HB := Aside0.mk (below_alloc (below_alloc (Below.refl w.heap.size w) (.cells #[.slice A0 x.vs.length c0, .slice (some ad) x.qs.length c1, .slice A2 x.rs.length c2] 55)) (.cells #[.int .i64 0, .int .i64 0, .int .i64 0, .int .i64 0, .int .i64 0] 107))
    have HI := Aside0.mk (blk_box (al_new w (.cells #[.slice A0 x.vs.length c0, .slice (some ad) x.qs.length c1, .slice A2 x.rs.length c2] 55)) (.cells #[.int .i64 0, .int .i64 0, .int .i64 0, .int .i64 0, .int .i64 0] 107))
    have HZ := Aside0.mk (show ((w.alloc (.cells #[.slice A0 x.vs.length c0, .slice (some ad) x.qs.length c1, .slice A2 x.rs.length c2] 55)).alloc (.cells #[.int .i64 0, .int .i64 0, .int .i64 0, .int .i64 0, .int .i64 0] 107)).heap[w.heap.size + 1]? = some (.cells #[.int .i64 0, .int .i64 0, .int .i64 0, .int .i64 0, .int .i64 0] 107 (0, 0)) from by rw [← al_size w (.cells #[.slice A0 x.vs.length c0, .slice (some ad) x.qs.length c1, .slice A2 x.rs.length c2] 55)]; exact al_new _ _)
    go_at_call 98
    refine (impl_vehicles _ A0 (some ad) A2 x.vs.length x.qs.length x.rs.length c0 c1 c2 (by omega)).mono ?_
    rintro e w2 ⟨rfl, hb⟩
    replace HB := Aside0.mk (bel_call HB.out hb); replace HI := Aside0.mk (blk_below HI.out hb); replace HZ := Aside0.mk (blk_below HZ.out hb); clear hb
    obtain ⟨b1, b2⟩ := lay (Below.refl _ _) HI.out
    go_wp2_with fail
    clear b1 b2
    go_at_call 98
    refine (impl_vehicles _ A0 (some ad) A2 x.vs.length x.qs.length x.rs.length c0 c1 c2 (by omega)).mono ?_
    rintro e w3 ⟨rfl, hb⟩
    replace HB := Aside0.mk (bel_call HB.out hb); replace HI := Aside0.mk (blk_below HI.out hb); replace HZ := Aside0.mk (blk_below HZ.out hb); clear hb
    obtain ⟨b1, b2⟩ := lay (Below.refl _ _) HI.out
    obtain ⟨d1, d2⟩ := lay (Below.refl _ _) HZ.out
    obtain ⟨s0, s1, s2, s3, s4⟩ := HO.below HB.out
    go_wp2
    refine bodyPost_ret (v := .agg #[.int .i64 y.to_.x, .int .i64 y.to_.y, .int .i64 y.to_.o, .int .i64 y.to_.c, .int .i64 y.to_.h]) (by simp [results, Try.results131, go_sem, d1, d2]) rfl ⟨by rw [HP.out]; rfl, ?_⟩
    with_reducible repeat (first | exact HB.out | refine bel_set ?_ (by omega) _ | refine below_alloc ?_ _ | exact Below.refl _ _)
end
end Go.Proofs.Ytmjpajaeffhdeaa.L1
