/- The law FnExactDecodeCode's own walk. -/
import Derived.Test.YtmjpajaeffhdeaaL6h
import Derived.Test.YtmjpajaeffhdeaaL6g
import Derived.Test.YtmjpajaeffhdeaaO0
namespace Go.Proofs.Ytmjpajaeffhdeaa.L1
open Go.RowKit Go.Proofs.YtmjpajaeffhdeaaW.PrintWords Go.Proofs.Ytmjpajaeffhdeaa.B
set_option linter.unusedVariables false
set_option linter.unusedSimpArgs false
attribute [local go_sem] mk_cell mk_frozen
/-- Bytes that are told to be bytes. -/
def kB8 : Kd {n : Int // 0 ≤ n ∧ n < 256} := Kd.flat 1 (fun n => [.int .u8 n.1]) (fun _ => rfl) (by intro x u hu; simp at hu; rcases hu with rfl; rfl)
theorem kB8_C {w : World} {A : Option Addr} {n : Nat} {xs : List {n : Int // 0 ≤ n ∧ n < 256}} (h : kB8.C w A n xs) : kByte.C w A n (xs.map Subtype.val) := by
  refine ⟨by rw [List.length_map]; exact h.1, h.2.1, fun hn => ?_⟩
  obtain ⟨ad, e, hc⟩ := h.2.2 hn
  refine ⟨ad, e, fun j p hp => ?_⟩
  rw [List.getElem?_map] at hp
  obtain ⟨q, hq, rfl⟩ := Option.map_eq_some_iff.1 hp
  exact hc j q hq
section
variable {H : Type} {enc : TypeId × Value → H} {w : World} {base : Nat} {spare : Nat → Bool} {held : Bool}
theorem open_byte (n : Nat) (cs : List Value) (x : DataW H × List MemPlace) (h : DataW.trod enc Try.prog w base spare held n 5 cs = some x) : ∃ y, kB8.K w y cs := by
  obtain ⟨k, rfl, _, hw⟩ := DataW.trod_int (k := .u8) Try.underlying5 h
  have hw' : 0 ≤ k ∧ k < 256 := by simp [Lit.wf, IntKind.min, IntKind.max, IntKind.signed, IntKind.bits] at hw; omega
  exact ⟨⟨k, hw'⟩, rfl⟩
set_option maxRecDepth 100000 in
/-- A row of bytes that came in. -/
theorem open_bytes {r : Reach} {b0 : Nat} {v : Value} {d : DataW H} {p : List MemPlace} (hv : Value.okWide Try.prog w r b0 36 v) (h : DataW.Trod enc Try.prog w base spare held 36 v d p) : ∃ A c xs, v = .slice A xs.length c ∧ kByte.C w A xs.length xs ∧ ∀ b, b ∈ xs → 0 ≤ b ∧ b < 256 := by
  obtain ⟨a0, len, cap, rfl⟩ := Go.WideShapes.okWide_slice Try.underlying36 hv
  obtain ⟨m, hm⟩ := h
  obtain ⟨A, c, xs, e, r⟩ := Open.open_C kB8 (Try.underlying36) (by kernel_rfl) open_byte hm
  have e1 : [Value.slice a0 len cap] = [Value.slice A xs.length c] := e
  simp only [List.cons.injEq, and_true] at e1
  refine ⟨A, c, xs.map Subtype.val, by rw [List.length_map]; exact e1, by rw [List.length_map]; exact kB8_C r, fun b hb => ?_⟩
  obtain ⟨q, _, rfl⟩ := List.mem_map.1 hb
  exact q.2
end
theorem Code.small_zero : Code.zero.small := ⟨Nat.zero_le _, Nat.zero_le _, Nat.zero_le _⟩
theorem Code.small_valid {x : Code} (h : x.valid = true) : x.small := by
  have h0 : x.b0.length ≤ 16384 := Code.good_len h 0 (by omega)
  have h1 : x.b1.length ≤ 16384 := Code.good_len h 1 (by omega)
  have h2 : x.b2.length ≤ 16384 := Code.good_len h 2 (by omega)
  exact ⟨by omega, by omega, by omega⟩
theorem decode_small (bs : List Int) : (decode bs).small := by
  unfold decode
  cases parse bs with
  | none => exact Code.small_zero
  | some ns =>
    simp only
    by_cases h : (nsOk ns && (nsCode ns).valid) = true
    · rw [if_pos h]; simp only [Bool.and_eq_true] at h; exact Code.small_valid h.2
    · rw [if_neg h]; exact Code.small_zero
theorem OwnCode.step {w w1 : World} {base : Nat} {v : Value} {x : Code} (h : OwnCode w base v x) (hs : ∀ k, base ≤ k → k < w.heap.size → w1.heap[k]? = w.heap[k]?) : OwnCode w1 base v x := by
  obtain ⟨v0, v1, v2, s1, s2, e, hss, h0, h1, h2⟩ := h
  exact ⟨v0, v1, v2, s1, s2, e, hss, kIns_step h0 (fun k _ a b => hs k a b), kIns_step h1 (fun k _ a b => hs k a b), kIns_step h2 (fun k _ a b => hs k a b)⟩
section
variable (w : World)
set_option maxRecDepth 100000 in
set_option maxHeartbeats 4000000 in
theorem law_decodeCode (A : Option Addr) (c : Nat) (bs : List Int) (hr : kByte.C w A bs.length bs) (hb : ∀ b, b ∈ bs → 0 ≤ b ∧ b < 256) : Calls Try.prog 8 #[.slice A bs.length c] w fun e w' => e = .returned (.bool true) ∧ Below w.heap.size w w' := by
  have HR := Aside0.mk hr; have HY := Aside0.mk hb; have hml := hr.2.1; clear hr hb
  by_cases hl : 1048576 < bs.length
  · have p0 : decide ((1048576 : Int) < (bs.length : Int)) = true := by simp; omega
    go_enter Try.func8, Try.ntmps8
    go_wp2
    go_ret
    exact ⟨rfl, Below.refl _ _⟩
  have hxl : bs.length ≤ 1048576 := by omega
  have pl : decide ((1048576 : Int) < (bs.length : Int)) = false := by simp; omega
  have HS := Aside0.mk (decode_small bs)
  go_enter Try.func8, Try.ntmps8
  go_wp2_with fail
  go_at_call 30
  refine (toByteS _ A c bs HR.out hxl).mono ?_
  rintro e w1 ⟨v1, rfl, h1, hb⟩
  obtain ⟨A1, c1, rfl⟩ := Kd.R_slice h1
  have HB1 := Aside0.mk hb; have H1 := Aside0.mk (Kd.R_reads' h1); clear hb h1
  go_wp2_with fail
  go_at_call 29
  refine (spec_DecodeCode _ A1 c1 bs H1.out.2.2 HY.out hxl).mono ?_
  rintro e w2 ⟨uW, rfl, ho, hb⟩
  obtain ⟨x, hx⟩ : ∃ x, decode bs = x := ⟨_, rfl⟩
  have HE := Aside0.mk hx; rw [hx] at ho; have HSX := Aside0.mk (show x.small from hx ▸ HS.out); clear hx HS
  obtain ⟨W0, p0, W1, p1, W2, p2, rfl, r0, r1, r2⟩ := ho.read
  clear r0 r1 r2
  have HB2 := Aside0.mk (bel_box (bel_call HB1.out hb) (.cells #[.int .i64 x.regs, .int .i64 x.slots, .slice W0 x.b0.length p0, .slice W1 x.b1.length p1, .slice W2 x.b2.length p2] 32)); have HW2 := Aside0.mk (ho.read.below (below_alloc (Below.refl _ _) (.cells #[.int .i64 x.regs, .int .i64 x.slots, .slice W0 x.b0.length p0, .slice W1 x.b1.length p1, .slice W2 x.b2.length p2] 32))); have HVW := Aside0.mk (al_new w2 (.cells #[.int .i64 x.regs, .int .i64 x.slots, .slice W0 x.b0.length p0, .slice W1 x.b1.length p1, .slice W2 x.b2.length p2] 32)); clear hb ho H1 HB1
  go_wp2_with fail
  go_at_call 30
  refine (toByteS _ A c bs (Kd.C_below HR.out HB2.out) hxl).mono ?_
  rintro e w3 ⟨v3, rfl, h3, hb⟩
  obtain ⟨A3, c3, rfl⟩ := Kd.R_slice h3
  have HBW3 := Aside0.mk hb; have H3 := Aside0.mk h3; clear hb h3
  go_wp2_with fail
  go_at_call 31
  refine (impl_DecodeCode _ A3 c3 bs (Kd.R_reads' H3.out).2.2 (Kd.R_reads' H3.out).2.1 HY.out hxl).mono ?_
  rintro e w4 ⟨uG, rfl, ho, hb⟩
  rw [HE.out] at ho
  have HT := Aside0.mk ho.top
  have HG4 := Aside0.mk ho
  obtain ⟨G0, q0, G1, q1, G2, q2, rfl, r0, r1, r2⟩ := ho.read
  clear r0 r1 r2 ho
  have HBW4 := Aside0.mk (bel_box (bel_call HBW3.out hb) (.cells #[.int .i64 x.regs, .int .i64 x.slots, .slice G0 x.b0.length q0, .slice G1 x.b1.length q1, .slice G2 x.b2.length q2] 32)); have H4 := Aside0.mk (Kd.R_alloc (Kd.R_below H3.out hb) (.cells #[.int .i64 x.regs, .int .i64 x.slots, .slice G0 x.b0.length q0, .slice G1 x.b1.length q1, .slice G2 x.b2.length q2] 32)); have HG4b := Aside0.mk (HG4.out.below (below_alloc (Below.refl _ _) (.cells #[.int .i64 x.regs, .int .i64 x.slots, .slice G0 x.b0.length q0, .slice G1 x.b1.length q1, .slice G2 x.b2.length q2] 32))); have HV4 := Aside0.mk (al_new w4 (.cells #[.int .i64 x.regs, .int .i64 x.slots, .slice G0 x.b0.length q0, .slice G1 x.b1.length q1, .slice G2 x.b2.length q2] 32))
  have HZ4 := Aside0.mk (And.intro HBW3.out.size hb.size)
  have HX := Aside0.mk (fun k (hk : (Value.slice A3 bs.length c3).ownBlock = some k) => And.intro (Kd.R_base H3.out k hk) (Kd.R_lt H3.out k hk))
  clear hb H3 HBW3 HG4
  obtain ⟨b1, b2⟩ := lay HBW4.out HVW.out
  obtain ⟨d1, d2⟩ := lay (Below.refl _ _) HV4.out
  go_wp2_with fail
  clear b1 b2 d1 d2
  go_at_call 22
  refine (eqCode _ _ _ x HG4b.out.read (HW2.out.below HBW4.out) HSX.out).mono ?_
  rintro e w5 ⟨rfl, hb⟩
  have HBW5 := Aside0.mk (bel_call HBW4.out hb); have H5 := Aside0.mk (Kd.R_below H4.out hb); have HG5 := Aside0.mk (HG4b.out.below hb); have HV5 := Aside0.mk (blk_below HV4.out hb); clear hb HBW4 H4 HG4b HV4
  go_wp2_with fail
  go_at_call 30
  refine (toByteS _ A c bs (Kd.C_below HR.out (bel_call HB2.out HBW5.out)) hxl).mono ?_
  rintro e w6 ⟨v6, rfl, h6, hb⟩
  obtain ⟨A6, c6, rfl⟩ := Kd.R_slice h6
  have HBW6 := Aside0.mk (bel_call HBW5.out hb); have H6 := Aside0.mk (Kd.R_below H5.out hb); have HG6 := Aside0.mk (HG5.out.below hb); have HV6 := Aside0.mk (blk_below HV5.out hb); have K6 := Aside0.mk (Kd.R_reads' h6).2.2; clear hb h6 HBW5 H5 HG5 HV5
  go_wp2_with fail
  go_at_call 25
  refine (eqByteS _ A3 A6 c3 c6 bs (Kd.R_reads' H6.out).2.2 K6.out hxl).mono ?_
  rintro e w7 ⟨rfl, hb⟩
  have HBW7 := Aside0.mk (bel_call HBW6.out hb); have H7 := Aside0.mk (Kd.R_below H6.out hb); have HG7 := Aside0.mk (HG6.out.below hb); have HV7 := Aside0.mk (blk_below HV6.out hb); clear hb HBW6 H6 HG6 K6 HV6
  go_wp2_with fail
  go_at_call 27
  refine (markByteS _ (w2.alloc (.cells #[.int .i64 x.regs, .int .i64 x.slots, .slice W0 x.b0.length p0, .slice W1 x.b1.length p1, .slice W2 x.b2.length p2] 32)) A3 c3 bs 1 (by omega) (Kd.R_mono H7.out fun _ _ => trivial) HBW7.out).mono ?_
  rintro e w8 ⟨rfl, _, hb, hg⟩
  have HBW8 := Aside0.mk hb; have HG8 := Aside0.mk (HG7.out.step (fun k h1 h2 => hg.block k h2 (fun e => by have := HX.out k e.symm; omega))); have HV8 := Aside0.mk (blk_grown HV7.out hg (fun e => by have := HX.out _ e.symm; have := HZ4.out; omega)); clear hb hg HBW7 H7 HG7 HV7
  have hd8 : decide (((1 + bs.length : Nat) : Int) < 0) = false := decide_eq_false (by omega)
  obtain ⟨b1, b2⟩ := lay HBW8.out HVW.out
  obtain ⟨d1, d2⟩ := lay (Below.refl _ _) HV8.out
  go_wp2_with fail
  clear b1 b2 d1 d2
  go_at_call 22
  refine (eqCode _ _ _ x HG8.out.read (HW2.out.below HBW8.out) HSX.out).mono ?_
  rintro e w9 ⟨rfl, hb⟩
  have HBW9 := Aside0.mk (bel_call HBW8.out hb); have HG9 := Aside0.mk (HG8.out.below hb); have HV9 := Aside0.mk (blk_below HV8.out hb); clear hb HBW8 HG8 HV8
  obtain ⟨d1, d2⟩ := lay (Below.refl _ _) HV9.out
  go_wp2_with fail
  clear d1 d2
  go_at_call 26
  refine (markCodeC _ w4.heap.size w3.heap.size _ x 1 HSX.out (by omega) HG9.out HT.out (by have := blk_lt HV9.out; omega)).mono ?_
  rintro e w10 ⟨rfl, hO, hm⟩
  have HBW10 := Aside0.mk (hO.below HBW9.out (fun i hi h => by have := HZ4.out; omega)); have HM10 := Aside0.mk hm.read; have HV10 := Aside0.mk ((hO.block _ (blk_lt HV9.out) (fun h => by omega)).trans HV9.out); clear hO hm HBW9 HG9 HV9
  obtain ⟨d1, d2⟩ := lay (Below.refl _ _) HV10.out
  go_wp2_with fail
  clear d1 d2
  go_at_call 32
  refine (heldCode _ _ x 1 HSX.out (by omega) HM10.out).mono ?_
  rintro e w11 ⟨rfl, hb⟩
  have HBW11 := Aside0.mk (bel_call HBW10.out hb); clear hb HBW10 HM10 HV10
  have hd11 : decide (((1 + 4 * x.b0.length + 4 * x.b1.length + 4 * x.b2.length : Nat) : Int) < 0) = false := decide_eq_false (by omega)
  go_wp2_with fail
  go_at_call 30
  refine (toByteS _ A c bs (Kd.C_below HR.out (bel_call HB2.out HBW11.out)) hxl).mono ?_
  rintro e w12 ⟨v12, rfl, h12, hb⟩
  obtain ⟨A12, c12, rfl⟩ := Kd.R_slice h12
  have HBW12 := Aside0.mk (bel_call HBW11.out hb); have H12 := Aside0.mk (Kd.R_reads' h12); clear hb h12 HBW11
  go_wp2_with fail
  go_at_call 31
  refine (impl_DecodeCode _ A12 c12 bs H12.out.2.2 H12.out.2.1 HY.out hxl).mono ?_
  rintro e w13 ⟨uH, rfl, ho, hb⟩
  rw [HE.out] at ho
  obtain ⟨H0, t0, H1, t1, H2, t2, rfl, r0, r1, r2⟩ := ho.read
  clear r0 r1 r2
  have HBW13 := Aside0.mk (bel_box (bel_call HBW12.out hb) (.cells #[.int .i64 x.regs, .int .i64 x.slots, .slice H0 x.b0.length t0, .slice H1 x.b1.length t1, .slice H2 x.b2.length t2] 32)); have HH13 := Aside0.mk (ho.read.below (below_alloc (Below.refl _ _) (.cells #[.int .i64 x.regs, .int .i64 x.slots, .slice H0 x.b0.length t0, .slice H1 x.b1.length t1, .slice H2 x.b2.length t2] 32))); have HV13 := Aside0.mk (al_new w13 (.cells #[.int .i64 x.regs, .int .i64 x.slots, .slice H0 x.b0.length t0, .slice H1 x.b1.length t1, .slice H2 x.b2.length t2] 32)); clear hb ho HBW12
  obtain ⟨b1, b2⟩ := lay HBW13.out HVW.out
  obtain ⟨d1, d2⟩ := lay (Below.refl _ _) HV13.out
  go_wp2_with fail
  clear b1 b2 d1 d2
  go_at_call 22
  refine (eqCode _ _ _ x HH13.out (HW2.out.below HBW13.out) HSX.out).mono ?_
  rintro e w14 ⟨rfl, hb⟩
  have HB14 := Aside0.mk (bel_call HB2.out (bel_call HBW13.out hb)); clear hb
  go_wp2
  go_ret
  exact ⟨rfl, HB14.out⟩
end
end Go.Proofs.Ytmjpajaeffhdeaa.L1
