/- What the laws do with a parser's result: comparison, marks, what is held. The law FnExactParseInst's own walk. -/
import Derived.Test.YtogjkkbhmanbmaaGreatDoorQP18
import Derived.Test.YtogjkkbhmanbmaaGreatDoorQP3
namespace Go.Proofs.YtogjkkbhmanbmaaGreatDoor.L1
open Go.RowKit Go.Proofs.YtogjkkbhmanbmaaGreatDoorW.PrintWords Go.Proofs.YtogjkkbhmanbmaaGreatDoor.B
set_option linter.unusedVariables false
set_option linter.unusedSimpArgs false
attribute [local go_sem] mk_cell mk_frozen
/-- A result that is read. -/
def ReadR (w : World) (v : Value) (r : IRes) : Prop := ∃ A0 c0 A1 c1 A2 c2, v = .agg #[.int .i64 r.err, .int .i64 r.line, .slice A0 r.inst.vs.length c0, .slice A1 r.inst.qs.length c1, .slice A2 r.inst.rs.length c2] ∧
  kVeh.C w A0 r.inst.vs.length r.inst.vs ∧ kReq.C w A1 r.inst.qs.length r.inst.qs ∧ kRoad.C w A2 r.inst.rs.length r.inst.rs
theorem ReadR.below {w w1 : World} {v : Value} {r : IRes} (h : ReadR w v r) (hb : Below w.heap.size w w1) : ReadR w1 v r := by
  obtain ⟨A0, c0, A1, c1, A2, c2, rfl, h0, h1, h2⟩ := h
  exact ⟨A0, c0, A1, c1, A2, c2, rfl, Kd.C_below h0 hb, Kd.C_below h1 hb, Kd.C_below h2 hb⟩
theorem OwnR.read {w : World} {base : Nat} {v : Value} {r : IRes} (h : OwnR w base v r) : ReadR w v r := by
  obtain ⟨v0, v1, v2, rfl, h0, h1, h2⟩ := h
  obtain ⟨A0, c0, rfl, _, r0⟩ := Kd.R_reads h0
  obtain ⟨A1, c1, rfl, _, r1⟩ := Kd.R_reads h1
  obtain ⟨A2, c2, rfl, _, r2⟩ := Kd.R_reads h2
  exact ⟨A0, c0, A1, c1, A2, c2, rfl, r0, r1, r2⟩
theorem OwnR.below {w w1 : World} {base : Nat} {v : Value} {r : IRes} (h : OwnR w base v r) (hb : Below w.heap.size w w1) : OwnR w1 base v r := by
  obtain ⟨v0, v1, v2, rfl, h0, h1, h2⟩ := h
  exact ⟨v0, v1, v2, rfl, Kd.R_below h0 hb, Kd.R_below h1 hb, Kd.R_below h2 hb⟩
theorem OwnR.other {w w1 : World} {base : Nat} {v : Value} {r : IRes} {row : Option Nat} {T' : TypeId} (h : OwnR w base v r) (hg : w.grownBy w1 row) (hrow : ∀ i, row = some i → ∃ (cs : Array Value) (fr : Nat × Nat), w.heap[i]? = some (Obj.cells cs T' fr)) (h0 : T' ∉ 60 :: kVeh.E) (h1 : T' ∉ 63 :: kReq.E) (h2 : T' ∉ 66 :: kRoad.E) : OwnR w1 base v r := by
  obtain ⟨v0, v1, v2, rfl, r0, r1, r2⟩ := h
  exact ⟨v0, v1, v2, rfl, R_other r0 hg hrow h0, R_other r1 hg hrow h1, R_other r2 hg hrow h2⟩
section
variable (w : World)
set_option maxHeartbeats 1000000 in
theorem eqInstRes (v v' : Value) (r : IRes) (hr : ReadR w v r) (hr' : ReadR w v' r) (hs : r.inst.small) : Calls Tryz.prog 7 #[v, v'] w fun e w' => e = .returned (.bool true) ∧ Below w.heap.size w w' := by
  obtain ⟨A0, c0, A1, c1, A2, c2, rfl, r0, r1, r2⟩ := hr
  obtain ⟨B0, d0, B1, d1, B2, d2, rfl, s0, s1, s2⟩ := hr'
  have HR := Aside0.mk (show ReadInst w (.agg #[.slice A0 r.inst.vs.length c0, .slice A1 r.inst.qs.length c1, .slice A2 r.inst.rs.length c2]) r.inst from ⟨_, _, _, _, _, _, rfl, r0, r1, r2⟩)
  have HR' := Aside0.mk (show ReadInst w (.agg #[.slice B0 r.inst.vs.length d0, .slice B1 r.inst.qs.length d1, .slice B2 r.inst.rs.length d2]) r.inst from ⟨_, _, _, _, _, _, rfl, s0, s1, s2⟩)
  clear r0 r1 r2 s0 s1 s2
  have p0 : (r.err == r.err) = true := beq_self_eq_true _
  have p1 : (r.line == r.line) = true := beq_self_eq_true _
  go_enter Tryz.func7, Tryz.ntmps7
  go_wp2_with fail
  have HB := Aside0.mk (below_alloc (below_alloc (Below.refl w.heap.size w) (.cells #[.int .i64 r.err, .int .i64 r.line, .slice A0 r.inst.vs.length c0, .slice A1 r.inst.qs.length c1, .slice A2 r.inst.rs.length c2] 29)) (.cells #[.int .i64 r.err, .int .i64 r.line, .slice B0 r.inst.vs.length d0, .slice B1 r.inst.qs.length d1, .slice B2 r.inst.rs.length d2] 29))
  go_at_call 18
  refine (eqInst _ _ _ r.inst (HR.out.below HB.out) (HR'.out.below HB.out) hs).mono ?_
  rintro e w1 ⟨rfl, hb⟩
  have HB1 := Aside0.mk (bel_call HB.out hb); clear hb
  go_wp2
  go_ret
  exact ⟨rfl, HB1.out⟩
set_option maxHeartbeats 2000000 in
theorem markInstC (A0 A1 A2 : Option Addr) (c0 c1 c2 : Nat) (x : Inst) (base k : Nat) (hx : x.tiny) (hk : k ≤ 1000) (h0 : kVeh.R 60 w base (fun _ => True) (.slice A0 x.vs.length c0) x.vs) (h1 : kReq.R 63 w base (fun _ => True) (.slice A1 x.qs.length c1) x.qs) (h2 : kRoad.R 66 w base (fun _ => True) (.slice A2 x.rs.length c2) x.rs) :
    Calls Tryz.prog 19 #[.agg #[.slice A0 x.vs.length c0, .slice A1 x.qs.length c1, .slice A2 x.rs.length c2], .int .i64 k] w fun e w' => e = .returned (.int .i64 ((k + 7 * x.vs.length + 12 * x.qs.length + 3 * x.rs.length : Nat) : Int)) ∧
      Tch (fun i => some i = (Value.slice A0 x.vs.length c0).ownBlock ∨ some i = (Value.slice A1 x.qs.length c1).ownBlock ∨ some i = (Value.slice A2 x.rs.length c2).ownBlock) w w' ∧
      MarkedAt w' A0 60 (7 * x.vs.length) k ∧ MarkedAt w' A1 63 (12 * x.qs.length) (k + 7 * x.vs.length) ∧ MarkedAt w' A2 66 (3 * x.rs.length) (k + 7 * x.vs.length + 12 * x.qs.length) := by
  obtain ⟨n0, n1, n2⟩ := hx
  have H0 := Aside0.mk (Kd.R_alloc h0 (.cells #[.slice A0 x.vs.length c0, .slice A1 x.qs.length c1, .slice A2 x.rs.length c2] 27)); have H1 := Aside0.mk (Kd.R_alloc h1 (.cells #[.slice A0 x.vs.length c0, .slice A1 x.qs.length c1, .slice A2 x.rs.length c2] 27)); have H2 := Aside0.mk (Kd.R_alloc h2 (.cells #[.slice A0 x.vs.length c0, .slice A1 x.qs.length c1, .slice A2 x.rs.length c2] 27)); clear h0 h1 h2
  have HT := Aside0.mk (Tch.of_below (S := fun i => some i = (Value.slice A0 x.vs.length c0).ownBlock ∨ some i = (Value.slice A1 x.qs.length c1).ownBlock ∨ some i = (Value.slice A2 x.rs.length c2).ownBlock) (below_alloc (Below.refl w.heap.size w) (.cells #[.slice A0 x.vs.length c0, .slice A1 x.qs.length c1, .slice A2 x.rs.length c2] 27)))
  have HA := Aside0.mk (al_new w (.cells #[.slice A0 x.vs.length c0, .slice A1 x.qs.length c1, .slice A2 x.rs.length c2] 27))
  have HL := Aside0.mk (And.intro n0 (And.intro n1 n2)); clear n0 n1 n2
  go_enter Tryz.func19, Tryz.ntmps19
  go_wp2_with fail
  go_at_call 52
  refine (markVehicleC _ base _ A0 c0 x.vs k (by have := HL.out; omega) H0.out).mono ?_
  rintro e w1 ⟨rfl, hg, hm⟩
  have HA1 := Aside0.mk (blk_grown HA.out hg (fun h => by obtain ⟨cs, fr, e⟩ := row_ty H0.out _ h.symm; rw [HA.out] at e; cases e))
  have K1 := Aside0.mk (R_other H1.out hg (row_ty H0.out) (by decide))
  have K2 := Aside0.mk (R_other H2.out hg (row_ty H0.out) (by decide))
  have M1 := Aside0.mk hm
  have HT1 := Aside0.mk (HT.out.trans (tch_row hg (fun i hi => Or.inl hi.symm) hg.size)); clear hg hm H0 H1 H2 HA HT
  obtain ⟨b1, b2⟩ := lay (Below.refl _ _) HA1.out
  go_wp2_with fail
  clear b1 b2
  go_at_call 53
  refine (markRequestC _ base _ A1 c1 x.qs (k + 7 * x.vs.length) (by have := HL.out; omega) K1.out).mono ?_
  rintro e w2 ⟨rfl, hg, hm⟩
  have HA2 := Aside0.mk (blk_grown HA1.out hg (fun h => by obtain ⟨cs, fr, e⟩ := row_ty K1.out _ h.symm; rw [HA1.out] at e; cases e))
  have J2 := Aside0.mk (R_other K2.out hg (row_ty K1.out) (by decide))
  have M1' := Aside0.mk (M1.out.grown hg (row_ty K1.out) (by decide))
  have M2 := Aside0.mk hm
  have HT2 := Aside0.mk (HT1.out.trans (tch_row hg (fun i hi => Or.inr (Or.inl hi.symm)) hg.size)); clear hg hm K1 K2 HA1 HT1 M1
  obtain ⟨b1, b2⟩ := lay (Below.refl _ _) HA2.out
  go_wp2_with fail
  clear b1 b2
  go_at_call 54
  refine (markRoadC _ base _ A2 c2 x.rs (k + 7 * x.vs.length + 12 * x.qs.length) (by have := HL.out; omega) J2.out).mono ?_
  rintro e w3 ⟨rfl, hg, hm⟩
  have M1'' := Aside0.mk (M1'.out.grown hg (row_ty J2.out) (by decide))
  have M2' := Aside0.mk (M2.out.grown hg (row_ty J2.out) (by decide))
  have M3 := Aside0.mk hm
  have HT3 := Aside0.mk (HT2.out.trans (tch_row hg (fun i hi => Or.inr (Or.inr hi.symm)) hg.size)); clear hg hm J2 HA2 HT2
  go_wp2
  go_ret
  exact ⟨rfl, HT3.out, M1''.out, M2'.out, M3.out⟩
set_option maxHeartbeats 2000000 in
theorem markInstResC (e0 l0 : Int) (A0 A1 A2 : Option Addr) (c0 c1 c2 : Nat) (x : Inst) (base k : Nat) (hx : x.tiny) (hk : k ≤ 1000) (h0 : kVeh.R 60 w base (fun _ => True) (.slice A0 x.vs.length c0) x.vs) (h1 : kReq.R 63 w base (fun _ => True) (.slice A1 x.qs.length c1) x.qs) (h2 : kRoad.R 66 w base (fun _ => True) (.slice A2 x.rs.length c2) x.rs) :
    Calls Tryz.prog 10 #[.agg #[.int .i64 e0, .int .i64 l0, .slice A0 x.vs.length c0, .slice A1 x.qs.length c1, .slice A2 x.rs.length c2], .int .i64 k] w fun e w' => e = .returned (.int .i64 ((k + 7 * x.vs.length + 12 * x.qs.length + 3 * x.rs.length : Nat) : Int)) ∧
      Tch (fun i => some i = (Value.slice A0 x.vs.length c0).ownBlock ∨ some i = (Value.slice A1 x.qs.length c1).ownBlock ∨ some i = (Value.slice A2 x.rs.length c2).ownBlock) w w' ∧
      MarkedAt w' A0 60 (7 * x.vs.length) k ∧ MarkedAt w' A1 63 (12 * x.qs.length) (k + 7 * x.vs.length) ∧ MarkedAt w' A2 66 (3 * x.rs.length) (k + 7 * x.vs.length + 12 * x.qs.length) := by
  have H0 := Aside0.mk (Kd.R_alloc h0 (.cells #[.int .i64 e0, .int .i64 l0, .slice A0 x.vs.length c0, .slice A1 x.qs.length c1, .slice A2 x.rs.length c2] 29)); have H1 := Aside0.mk (Kd.R_alloc h1 (.cells #[.int .i64 e0, .int .i64 l0, .slice A0 x.vs.length c0, .slice A1 x.qs.length c1, .slice A2 x.rs.length c2] 29)); have H2 := Aside0.mk (Kd.R_alloc h2 (.cells #[.int .i64 e0, .int .i64 l0, .slice A0 x.vs.length c0, .slice A1 x.qs.length c1, .slice A2 x.rs.length c2] 29)); clear h0 h1 h2
  have HT := Aside0.mk (Tch.of_below (S := fun i => some i = (Value.slice A0 x.vs.length c0).ownBlock ∨ some i = (Value.slice A1 x.qs.length c1).ownBlock ∨ some i = (Value.slice A2 x.rs.length c2).ownBlock) (below_alloc (Below.refl w.heap.size w) (.cells #[.int .i64 e0, .int .i64 l0, .slice A0 x.vs.length c0, .slice A1 x.qs.length c1, .slice A2 x.rs.length c2] 29)))
  go_enter Tryz.func10, Tryz.ntmps10
  go_wp2_with fail
  go_at_call 19
  refine (markInstC _ A0 A1 A2 c0 c1 c2 x base k hx hk H0.out H1.out H2.out).mono ?_
  rintro e w1 ⟨rfl, ht, m0, m1, m2⟩
  have HM := Aside0.mk (And.intro (HT.out.trans ht) (And.intro m0 (And.intro m1 m2))); clear ht m0 m1 m2
  go_wp2
  go_ret
  exact ⟨rfl, HM.out⟩
set_option maxHeartbeats 2000000 in
theorem heldInstC (A0 A1 A2 : Option Addr) (c0 c1 c2 : Nat) (a b c k : Nat) (ha : a ≤ 64) (hb : b ≤ 1000) (hc : c ≤ 4000) (hk : k ≤ 1000) (m0 : MarkedAt w A0 60 (7 * a) k) (m1 : MarkedAt w A1 63 (12 * b) (k + 7 * a)) (m2 : MarkedAt w A2 66 (3 * c) (k + 7 * a + 12 * b)) :
    Calls Tryz.prog 20 #[.agg #[.slice A0 a c0, .slice A1 b c1, .slice A2 c c2], .int .i64 k] w fun e w' => e = .returned (.int .i64 ((k + 7 * a + 12 * b + 3 * c : Nat) : Int)) ∧ Below w.heap.size w w' := by
  have HB := Aside0.mk (below_alloc (Below.refl w.heap.size w) (.cells #[.slice A0 a c0, .slice A1 b c1, .slice A2 c c2] 27))
  have H0 := Aside0.mk (m0.below HB.out); have H1 := Aside0.mk (m1.below HB.out); have H2 := Aside0.mk (m2.below HB.out); clear m0 m1 m2
  obtain ⟨b1, b2⟩ := lay (Below.refl _ _) (al_new w (.cells #[.slice A0 a c0, .slice A1 b c1, .slice A2 c c2] 27))
  have d0 : decide (((k + 7 * a : Nat) : Int) < 0) = false := decide_eq_false (by omega)
  have d1 : decide (((k + 7 * a + 12 * b : Nat) : Int) < 0) = false := decide_eq_false (by omega)
  have d2 : decide (((k + 7 * a + 12 * b + 3 * c : Nat) : Int) < 0) = false := decide_eq_false (by omega)
  go_enter Tryz.func20, Tryz.ntmps20
  go_wp2_with fail
  go_at_call 55
  refine (heldVehicleS _ A0 c0 a k (by omega) H0.out).mono ?_
  rintro e w1 ⟨rfl, rfl⟩
  go_wp2_with fail
  go_at_call 56
  refine (heldRequestS _ A1 c1 b (k + 7 * a) (by omega) H1.out).mono ?_
  rintro e w1 ⟨rfl, rfl⟩
  go_wp2_with fail
  go_at_call 57
  refine (heldRoadS _ A2 c2 c (k + 7 * a + 12 * b) (by omega) H2.out).mono ?_
  rintro e w1 ⟨rfl, rfl⟩
  go_wp2_with fail
  go_ret
  exact ⟨rfl, HB.out⟩
set_option maxHeartbeats 2000000 in
theorem heldInstResC (e0 l0 : Int) (A0 A1 A2 : Option Addr) (c0 c1 c2 : Nat) (a b c k : Nat) (ha : a ≤ 64) (hb : b ≤ 1000) (hc : c ≤ 4000) (hk : k ≤ 1000) (m0 : MarkedAt w A0 60 (7 * a) k) (m1 : MarkedAt w A1 63 (12 * b) (k + 7 * a)) (m2 : MarkedAt w A2 66 (3 * c) (k + 7 * a + 12 * b)) :
    Calls Tryz.prog 11 #[.agg #[.int .i64 e0, .int .i64 l0, .slice A0 a c0, .slice A1 b c1, .slice A2 c c2], .int .i64 k] w fun e w' => e = .returned (.int .i64 ((k + 7 * a + 12 * b + 3 * c : Nat) : Int)) ∧ Below w.heap.size w w' := by
  have HB := Aside0.mk (below_alloc (Below.refl w.heap.size w) (.cells #[.int .i64 e0, .int .i64 l0, .slice A0 a c0, .slice A1 b c1, .slice A2 c c2] 29))
  have H0 := Aside0.mk (m0.below HB.out); have H1 := Aside0.mk (m1.below HB.out); have H2 := Aside0.mk (m2.below HB.out); clear m0 m1 m2
  have d2 : decide (((k + 7 * a + 12 * b + 3 * c : Nat) : Int) < 0) = false := decide_eq_false (by omega)
  go_enter Tryz.func11, Tryz.ntmps11
  go_wp2_with fail
  go_at_call 20
  refine (heldInstC _ A0 A1 A2 c0 c1 c2 a b c k ha hb hc hk H0.out H1.out H2.out).mono ?_
  rintro e w1 ⟨rfl, hb'⟩
  have HB1 := Aside0.mk (bel_call HB.out hb'); clear hb'
  go_wp2
  go_ret
  exact ⟨rfl, HB1.out⟩
end
end Go.Proofs.YtogjkkbhmanbmaaGreatDoor.L1
namespace Go.Proofs.YtogjkkbhmanbmaaGreatDoor.L1
open Go.RowKit Go.Proofs.YtogjkkbhmanbmaaGreatDoorW.PrintWords Go.Proofs.YtogjkkbhmanbmaaGreatDoor.B
set_option linter.unusedVariables false
set_option linter.unusedSimpArgs false
attribute [local go_sem] mk_cell mk_frozen
/-- Bytes that are told to be bytes. -/
def kB8 : Kd {n : Int // 0 ≤ n ∧ n < 256} := Kd.flat 1 (fun n => [.int .u8 n.1]) (fun _ => rfl) (by intro x u hu; simp at hu; rcases hu with rfl; rfl)
theorem kB8_C {w : World} {A : Option Addr} {n : Nat} {xs : List {n : Int // 0 ≤ n ∧ n < 256}} (h : kB8.C w A n xs) : kByte.C w A n (xs.map Subtype.val) := by
  refine ⟨by rw [List.length_map]; exact h.1, h.2.1, fun hn => ?_⟩
  obtain ⟨ad, e, hc⟩ := h.2.2 hn
  refine ⟨ad, e, fun j p hp => ?_⟩
  rw [List.getElem?_map] at hp
  obtain ⟨q, hq, rfl⟩ := Option.map_eq_some_iff.1 hp
  exact hc j q hq
section
variable {H : Type} {enc : TypeId × Value → H} {w : World} {base : Nat} {spare : Nat → Bool} {held : Bool}
theorem open_byte (n : Nat) (cs : List Value) (x : DataW H × List MemPlace) (h : DataW.trod enc Tryz.prog w base spare held n 5 cs = some x) : ∃ y, kB8.K w y cs := by
  obtain ⟨k, rfl, _, hw⟩ := DataW.trod_int (k := .u8) Tryz.underlying5 h
  have hw' : 0 ≤ k ∧ k < 256 := by simp [Lit.wf, IntKind.min, IntKind.max, IntKind.signed, IntKind.bits] at hw; omega
  exact ⟨⟨k, hw'⟩, rfl⟩
set_option maxRecDepth 100000 in
/-- A row of bytes that came in. -/
theorem open_bytes {r : Reach} {b0 : Nat} {v : Value} {d : DataW H} {p : List MemPlace} (hv : Value.okWide Tryz.prog w r b0 22 v) (h : DataW.Trod enc Tryz.prog w base spare held 22 v d p) : ∃ A c xs, v = .slice A xs.length c ∧ kByte.C w A xs.length xs ∧ ∀ b, b ∈ xs → 0 ≤ b ∧ b < 256 := by
  obtain ⟨a0, len, cap, rfl⟩ := Go.WideShapes.okWide_slice Tryz.underlying22 hv
  obtain ⟨m, hm⟩ := h
  obtain ⟨A, c, xs, e, r⟩ := Open.open_C kB8 (Tryz.underlying22) (by kernel_rfl) open_byte hm
  have e1 : [Value.slice a0 len cap] = [Value.slice A xs.length c] := e
  simp only [List.cons.injEq, and_true] at e1
  refine ⟨A, c, xs.map Subtype.val, by rw [List.length_map]; exact e1, by rw [List.length_map]; exact kB8_C r, fun b hb => ?_⟩
  obtain ⟨q, _, rfl⟩ := List.mem_map.1 hb
  exact q.2
end
theorem Gl.on {w W : World} (h : Gl w) (hb : Below w.heap.size w W) : Gl W := by
  obtain ⟨⟨m, hm⟩, ⟨s, hs, hs'⟩, ⟨r, hr, hr'⟩, ht, hk⟩ := h
  exact ⟨⟨m, pw_cell_below hb hm⟩, ⟨s, pw_cell_below hb hs, hs'⟩, ⟨r, pw_cell_below hb hr, hr'⟩, fun w' h' => ht w' (bel_call hb h'), pw_cell_below hb hk.1, pw_cell_below hb hk.2.1, pw_cell_below hb hk.2.2.1, pw_cell_below hb hk.2.2.2.1, pw_cell_below hb hk.2.2.2.2.1, pw_cell_below hb hk.2.2.2.2.2⟩
theorem parseFrom_tiny : ∀ (ls : List (List Int)) (x : Inst) (i : Nat), x.tiny → (parseFrom x i ls).inst.tiny
  | [], x, i, h => h
  | [l], x, i, h => by
    unfold parseFrom
    split
    · exact h
    · exact ⟨Nat.zero_le _, Nat.zero_le _, Nat.zero_le _⟩
  | l :: m :: ls, x, i, h => by
    unfold parseFrom
    split
    · exact parseFrom_tiny (m :: ls) _ _ (lineP_tiny h l)
    · exact ⟨Nat.zero_le _, Nat.zero_le _, Nat.zero_le _⟩
theorem parseP_tiny (bs : List Int) : (parseP bs).inst.tiny := by
  unfold parseP
  split
  · exact ⟨Nat.zero_le _, Nat.zero_le _, Nat.zero_le _⟩
  · exact parseFrom_tiny _ _ _ ⟨Nat.zero_le _, Nat.zero_le _, Nat.zero_le _⟩
theorem row_at {W : World} {base c : Nat} {A : Option Addr} {bs : List Int} {e : TypeId} (h : kByte.R e W base (fun _ => True) (.slice A bs.length c) bs) : bs = [] ∨ ∃ b off, A = some ⟨b, off, none⟩ := by
  rcases Nat.eq_zero_or_pos bs.length with hz | hz
  · exact Or.inl (List.eq_nil_of_length_eq_zero hz)
  · obtain ⟨g, cap, e, _⟩ := Kd.R_form h hz
    simp only [Value.slice.injEq] at e
    exact Or.inr ⟨g, 0, e.1⟩
section
variable (w : World)
set_option maxRecDepth 100000 in
set_option maxHeartbeats 4000000 in
theorem law_parseInst (A : Option Addr) (c : Nat) (bs : List Int) (hr : kByte.C w A bs.length bs) (hb : ∀ b, b ∈ bs → 0 ≤ b ∧ b < 256) (hG : Gl w) (hE : w.cell? ⟨1, 0, none⟩ = some (.iface 115 (.agg #[.pointer (some ⟨10, 48, none⟩)]))) : Calls Tryz.prog 3 #[.slice A bs.length c] w fun e w' => e = .returned (.bool true) ∧ Below w.heap.size w w' := by
  have HR := Aside0.mk hr; have HY := Aside0.mk hb; have HGL := Aside0.mk (And.intro hG hE); clear hr hb hG hE
  by_cases hl : 1048576 < bs.length
  · have p0 : decide ((1048576 : Int) < (bs.length : Int)) = true := decide_eq_true (by omega)
    go_enter Tryz.func3, Tryz.ntmps3
    go_wp2
    go_ret
    exact ⟨rfl, Below.refl _ _⟩
  have hxl : bs.length ≤ 1048576 := by omega
  have pl : decide ((1048576 : Int) < (bs.length : Int)) = false := decide_eq_false (by omega)
  have HT := Aside0.mk (show Tame bs from ⟨hxl, HY.out⟩)
  have HTY := Aside0.mk (parseP_tiny bs)
  have HSM := Aside0.mk (show (parseP bs).inst.small from ⟨Nat.le_trans HTY.out.1 (by decide), Nat.le_trans HTY.out.2.1 (by decide), Nat.le_trans HTY.out.2.2 (by decide)⟩)
  obtain ⟨r, hr⟩ : ∃ r, parseP bs = r := ⟨_, rfl⟩
  rw [hr] at HTY HSM
  have HRR := Aside0.mk hr; clear hr
  go_enter Tryz.func3, Tryz.ntmps3
  go_wp2_with fail
  go_at_call 5
  refine (toByteS _ A c bs HR.out hxl).mono ?_
  rintro e w1 ⟨v1, rfl, h1, hb⟩
  obtain ⟨A1, c1, rfl⟩ := Kd.R_slice h1
  have HB1 := Aside0.mk hb; have H1 := Aside0.mk (Kd.R_reads' h1); clear hb h1
  go_wp2_with fail
  go_at_call 4
  refine (spec_ParseInst _ A1 c1 bs H1.out.2.2 HT.out).mono ?_
  rintro e w2 ⟨uW, rfl, ho, hb⟩
  rw [HRR.out] at ho
  obtain ⟨W0, p0, W1, p1, W2, p2, rfl, r0, r1, r2⟩ := ho.read
  clear r0 r1 r2
  have HB2 := Aside0.mk (bel_box (bel_call HB1.out hb) (.cells #[.int .i64 r.err, .int .i64 r.line, .slice W0 r.inst.vs.length p0, .slice W1 r.inst.qs.length p1, .slice W2 r.inst.rs.length p2] 29)); have HW2 := Aside0.mk (ho.read.below (below_alloc (Below.refl _ _) (.cells #[.int .i64 r.err, .int .i64 r.line, .slice W0 r.inst.vs.length p0, .slice W1 r.inst.qs.length p1, .slice W2 r.inst.rs.length p2] 29))); have HVW := Aside0.mk (al_new w2 (.cells #[.int .i64 r.err, .int .i64 r.line, .slice W0 r.inst.vs.length p0, .slice W1 r.inst.qs.length p1, .slice W2 r.inst.rs.length p2] 29)); clear hb ho
  go_wp2_with fail
  go_at_call 5
  refine (toByteS _ A c bs (Kd.C_below HR.out HB2.out) hxl).mono ?_
  rintro e w3 ⟨v3, rfl, h3, hb⟩
  obtain ⟨A3, c3, rfl⟩ := Kd.R_slice h3
  have HBW3 := Aside0.mk hb; have H3 := Aside0.mk h3; clear hb h3
  go_wp2_with fail
  go_at_call 6
  refine (impl_ParseInst _ (HGL.out.1.on (bel_call HB2.out HBW3.out)) (pw_cell_below (bel_call HB2.out HBW3.out) HGL.out.2) A3 c3 bs (Kd.R_reads' H3.out).2.2 HT.out (row_at H3.out)).mono ?_
  rintro e w4 ⟨uG, rfl, ho, hb⟩
  rw [HRR.out] at ho
  have HG4 := Aside0.mk ho
  obtain ⟨G0, q0, G1, q1, G2, q2, rfl, r0, r1, r2⟩ := ho.read
  clear r0 r1 r2 ho
  have HBW4 := Aside0.mk (bel_box (bel_call HBW3.out hb) (.cells #[.int .i64 r.err, .int .i64 r.line, .slice G0 r.inst.vs.length q0, .slice G1 r.inst.qs.length q1, .slice G2 r.inst.rs.length q2] 29)); have H4 := Aside0.mk (Kd.R_alloc (Kd.R_below H3.out hb) (.cells #[.int .i64 r.err, .int .i64 r.line, .slice G0 r.inst.vs.length q0, .slice G1 r.inst.qs.length q1, .slice G2 r.inst.rs.length q2] 29)); have HG4b := Aside0.mk (HG4.out.below (below_alloc (Below.refl _ _) (.cells #[.int .i64 r.err, .int .i64 r.line, .slice G0 r.inst.vs.length q0, .slice G1 r.inst.qs.length q1, .slice G2 r.inst.rs.length q2] 29))); have HV4 := Aside0.mk (al_new w4 (.cells #[.int .i64 r.err, .int .i64 r.line, .slice G0 r.inst.vs.length q0, .slice G1 r.inst.qs.length q1, .slice G2 r.inst.rs.length q2] 29))
  have HZ4 := Aside0.mk (And.intro HBW3.out.size hb.size)
  clear hb H3 HBW3 HG4
  obtain ⟨b1, b2⟩ := lay HBW4.out HVW.out
  obtain ⟨d1, d2⟩ := lay (Below.refl _ _) HV4.out
  go_wp2_with fail
  clear b1 b2 d1 d2
  go_at_call 7
  refine (eqInstRes _ _ _ r HG4b.out.read (HW2.out.below HBW4.out) HSM.out).mono ?_
  rintro e w5 ⟨rfl, hb⟩
  have HBW5 := Aside0.mk (bel_call HBW4.out hb); have H5 := Aside0.mk (Kd.R_below H4.out hb); have HG5 := Aside0.mk (HG4b.out.below hb); have HV5 := Aside0.mk (blk_below HV4.out hb); clear hb HBW4 H4 HG4b HV4
  go_wp2_with fail
  go_at_call 5
  refine (toByteS _ A c bs (Kd.C_below HR.out (bel_call HB2.out HBW5.out)) hxl).mono ?_
  rintro e w6 ⟨v6, rfl, h6, hb⟩
  obtain ⟨A6, c6, rfl⟩ := Kd.R_slice h6
  have HBW6 := Aside0.mk (bel_call HBW5.out hb); have H6 := Aside0.mk (Kd.R_below H5.out hb); have HG6 := Aside0.mk (HG5.out.below hb); have HV6 := Aside0.mk (blk_below HV5.out hb); have K6 := Aside0.mk (Kd.R_reads' h6).2.2; clear hb h6 HBW5 H5 HG5 HV5
  go_wp2_with fail
  go_at_call 8
  refine (eqByteS _ A3 A6 c3 c6 bs (Kd.R_reads' H6.out).2.2 K6.out (Nat.le_trans hxl (by decide))).mono ?_
  rintro e w7 ⟨rfl, hb⟩
  have HBW7 := Aside0.mk (bel_call HBW6.out hb); have H7 := Aside0.mk (Kd.R_below H6.out hb); have HG7 := Aside0.mk (HG6.out.below hb); have HV7 := Aside0.mk (blk_below HV6.out hb); clear hb HBW6 H6 HG6 K6 HV6
  go_wp2_with fail
  go_at_call 9
  refine (markByteS _ (w2.alloc (.cells #[.int .i64 r.err, .int .i64 r.line, .slice W0 r.inst.vs.length p0, .slice W1 r.inst.qs.length p1, .slice W2 r.inst.rs.length p2] 29)) A3 c3 bs 1 (by omega) (Kd.R_mono H7.out fun _ _ => trivial) HBW7.out).mono ?_
  rintro e w8 ⟨rfl, _, hb, hg⟩
  have HBW8 := Aside0.mk hb; have HG8 := Aside0.mk (HG7.out.other hg (row_ty H7.out) (by decide) (by decide) (by decide)); have HV8 := Aside0.mk (blk_grown HV7.out hg (fun h => by obtain ⟨cs, fr, e⟩ := row_ty H7.out _ h.symm; rw [HV7.out] at e; cases e)); clear hb hg HBW7 H7 HG7 HV7
  have hd8 : decide (((1 + bs.length : Nat) : Int) < 0) = false := decide_eq_false (by omega)
  obtain ⟨b1, b2⟩ := lay HBW8.out HVW.out
  obtain ⟨d1, d2⟩ := lay (Below.refl _ _) HV8.out
  go_wp2_with fail
  clear b1 b2 d1 d2
  go_at_call 7
  refine (eqInstRes _ _ _ r HG8.out.read (HW2.out.below HBW8.out) HSM.out).mono ?_
  rintro e w9 ⟨rfl, hb⟩
  have HBW9 := Aside0.mk (bel_call HBW8.out hb); have HG9 := Aside0.mk (HG8.out.below hb); have HV9 := Aside0.mk (blk_below HV8.out hb); clear hb HBW8 HG8 HV8
  obtain ⟨d1, d2⟩ := lay (Below.refl _ _) HV9.out
  go_wp2_with fail
  clear d1 d2
  go_at_call 10
  obtain ⟨y0, y1, y2, he, r0, r1, r2⟩ := HG9.out
  simp only [Value.agg.injEq, Array.mk.injEq, List.cons.injEq, true_and, and_true] at he
  obtain ⟨rfl, rfl, rfl⟩ := he
  refine (markInstResC _ r.err r.line G0 G1 G2 q0 q1 q2 r.inst _ 1 HTY.out (by decide) r0 r1 r2).mono ?_
  rintro e w10 ⟨rfl, hO, m0, m1, m2⟩
  have HBW10 := Aside0.mk (hO.below (w2.alloc (.cells #[.int .i64 r.err, .int .i64 r.line, .slice W0 r.inst.vs.length p0, .slice W1 r.inst.qs.length p1, .slice W2 r.inst.rs.length p2] 29)) (fun i hi => by
    have h3 := HZ4.out.1
    rcases hi with h | h | h
    · exact Nat.le_trans h3 (Kd.R_base r0 i h.symm)
    · exact Nat.le_trans h3 (Kd.R_base r1 i h.symm)
    · exact Nat.le_trans h3 (Kd.R_base r2 i h.symm)) HBW9.out)
  have HM10 := Aside0.mk (And.intro m0 (And.intro m1 m2))
  have HV10 := Aside0.mk (tch_at hO (by
    rintro (h | h | h)
    · obtain ⟨cs, fr, e⟩ := row_ty r0 _ h.symm; rw [HV9.out] at e; cases e
    · obtain ⟨cs, fr, e⟩ := row_ty r1 _ h.symm; rw [HV9.out] at e; cases e
    · obtain ⟨cs, fr, e⟩ := row_ty r2 _ h.symm; rw [HV9.out] at e; cases e) HV9.out)
  clear hO m0 m1 m2 r0 r1 r2 HBW9 HG9 HV9
  obtain ⟨d1, d2⟩ := lay (Below.refl _ _) HV10.out
  go_wp2_with fail
  clear d1 d2
  go_at_call 11
  refine (heldInstResC _ r.err r.line G0 G1 G2 q0 q1 q2 r.inst.vs.length r.inst.qs.length r.inst.rs.length 1 HTY.out.1 HTY.out.2.1 HTY.out.2.2 (by decide) HM10.out.1 HM10.out.2.1 HM10.out.2.2).mono ?_
  rintro e w11 ⟨rfl, hb⟩
  have HBW11 := Aside0.mk (bel_call HBW10.out hb); clear hb HBW10 HM10 HV10
  have hd11 : decide (((1 + 7 * r.inst.vs.length + 12 * r.inst.qs.length + 3 * r.inst.rs.length : Nat) : Int) < 0) = false := decide_eq_false (by omega)
  go_wp2_with fail
  go_at_call 5
  refine (toByteS _ A c bs (Kd.C_below HR.out (bel_call HB2.out HBW11.out)) hxl).mono ?_
  rintro e w12 ⟨v12, rfl, h12, hb⟩
  obtain ⟨A12, c12, rfl⟩ := Kd.R_slice h12
  have HBW12 := Aside0.mk (bel_call HBW11.out hb); have H12 := Aside0.mk h12; clear hb h12 HBW11
  go_wp2_with fail
  go_at_call 6
  refine (impl_ParseInst _ (HGL.out.1.on (bel_call HB2.out HBW12.out)) (pw_cell_below (bel_call HB2.out HBW12.out) HGL.out.2) A12 c12 bs (Kd.R_reads' H12.out).2.2 HT.out (row_at H12.out)).mono ?_
  rintro e w13 ⟨uH, rfl, ho, hb⟩
  rw [HRR.out] at ho
  obtain ⟨H0, t0, H1, t1, H2, t2, rfl, r0, r1, r2⟩ := ho.read
  clear r0 r1 r2
  have HBW13 := Aside0.mk (bel_box (bel_call HBW12.out hb) (.cells #[.int .i64 r.err, .int .i64 r.line, .slice H0 r.inst.vs.length t0, .slice H1 r.inst.qs.length t1, .slice H2 r.inst.rs.length t2] 29)); have HH13 := Aside0.mk (ho.read.below (below_alloc (Below.refl _ _) (.cells #[.int .i64 r.err, .int .i64 r.line, .slice H0 r.inst.vs.length t0, .slice H1 r.inst.qs.length t1, .slice H2 r.inst.rs.length t2] 29))); have HV13 := Aside0.mk (al_new w13 (.cells #[.int .i64 r.err, .int .i64 r.line, .slice H0 r.inst.vs.length t0, .slice H1 r.inst.qs.length t1, .slice H2 r.inst.rs.length t2] 29)); clear hb ho HBW12 H12
  obtain ⟨b1, b2⟩ := lay HBW13.out HVW.out
  obtain ⟨d1, d2⟩ := lay (Below.refl _ _) HV13.out
  go_wp2_with fail
  clear b1 b2 d1 d2
  go_at_call 7
  refine (eqInstRes _ _ _ r HH13.out (HW2.out.below HBW13.out) HSM.out).mono ?_
  rintro e w14 ⟨rfl, hb⟩
  have HB14 := Aside0.mk (bel_call HB2.out (bel_call HBW13.out hb)); clear hb
  go_wp2
  go_ret
  exact ⟨rfl, HB14.out⟩
end
end Go.Proofs.YtogjkkbhmanbmaaGreatDoor.L1
