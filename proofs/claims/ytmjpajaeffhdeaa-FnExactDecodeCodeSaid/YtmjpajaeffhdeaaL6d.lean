/- DecodeCode of the reference. -/
import Derived.Test.YtmjpajaeffhdeaaL6c
import Derived.Test.YtmjpajaeffhdeaaL5f
namespace Go.Proofs.Ytmjpajaeffhdeaa.L1
open Go.RowKit Go.Proofs.YtmjpajaeffhdeaaW.PrintWords Go.Proofs.YtmjpajaeffhdeaaW.PrintLast Go.Proofs.Ytmjpajaeffhdeaa.B
set_option linter.unusedVariables false
set_option linter.unusedSimpArgs false
attribute [local go_sem] mk_cell mk_frozen
def Code.zero : Code := ⟨0, 0, [], [], []⟩
def rowsFrom (ns : List Int) (i m : Nat) : List Ins := (List.range m).map fun k => insAt ns (i + 4 * k)
def codeOf (ns : List Int) (x y z : Nat) : Code := ⟨ns.getD 0 0, ns.getD 1 0, rowsFrom ns 5 x, rowsFrom ns (5 + 4 * x) y, rowsFrom ns (5 + 4 * (x + y)) z⟩
def nsOk (ns : List Int) : Bool := decide (5 ≤ ns.length) && inB (ns.getD 2 0) 0 16384 && inB (ns.getD 3 0) 0 16384 && inB (ns.getD 4 0) 0 16384 && decide ((ns.length : Int) = 5 + 4 * (ns.getD 2 0 + ns.getD 3 0 + ns.getD 4 0))
def nsCode (ns : List Int) : Code := codeOf ns (ns.getD 2 0).toNat (ns.getD 3 0).toNat (ns.getD 4 0).toNat
def decode (bs : List Int) : Code := match parse bs with
  | none => Code.zero
  | some ns => if nsOk ns && (nsCode ns).valid then nsCode ns else Code.zero
theorem decode_none {bs : List Int} (h : parse bs = none) : decode bs = Code.zero := by unfold decode; rw [h]
theorem decode_bad {bs ns : List Int} (h : parse bs = some ns) (hb : nsOk ns = false) : decode bs = Code.zero := by unfold decode; rw [h]; simp [hb]
theorem decode_inv {bs ns : List Int} (h : parse bs = some ns) (hb : (nsCode ns).valid = false) : decode bs = Code.zero := by unfold decode; rw [h]; simp [hb]
theorem decode_good {bs ns : List Int} (h : parse bs = some ns) (h1 : nsOk ns = true) (h2 : (nsCode ns).valid = true) : decode bs = nsCode ns := by unfold decode; rw [h]; simp [h1, h2]
theorem rows_sub (ns : List Int) (i m : Nat) (h : i + 4 * m ≤ ns.length) : rowsOf ((ns.take (i + 4 * m)).drop i) m = rowsFrom ns i m := by
  unfold rowsOf rowsFrom
  refine List.map_congr_left fun k hk => ?_
  have hk' : k < m := List.mem_range.1 hk
  have e : ∀ t, t < 4 → ((ns.take (i + 4 * m)).drop i).getD (4 * k + t) 0 = ns.getD (i + 4 * k + t) 0 := fun t ht => by
    rw [List.getD_eq_getElem?_getD, List.getElem?_drop, List.getElem?_take_of_lt (by omega), List.getD_eq_getElem?_getD, show i + (4 * k + t) = i + 4 * k + t by omega]
  unfold insAt
  rw [e 1 (by omega), e 2 (by omega), e 3 (by omega), show (((ns.take (i + 4 * m)).drop i).getD (4 * k) 0) = ns.getD (i + 4 * k) 0 from e 0 (by omega)]
theorem zero_own (w : World) (base : Nat) : OwnCode w base (.agg #[.int .i64 0, .int .i64 0, .slice none 0 0, .slice none 0 0, .slice none 0 0]) Code.zero :=
  ⟨_, _, _, 0, 0, rfl, Nat.le_refl _, Kd.R_nil _ _ _ _ _, Kd.R_nil _ _ _ _ _, Kd.R_nil _ _ _ _ _⟩
theorem reads_kInt {w : World} {A : Option Addr} {n : Nat} {xs : List Int} (h : kInt.C w A n xs) : ReadsInt w .i64 A n xs := by
  refine ⟨h.1, h.2.1, fun hn => ?_⟩
  obtain ⟨ad, e, _⟩ := h.2.2 hn
  refine ⟨ad, e, fun j hj => ?_⟩
  obtain ⟨ad', e0, t0, _⟩ := Kd.flat_cells (d := kInt) rfl h 0 j hj
  rw [e] at e0; cases e0
  have := t0 _ rfl; simp only [Nat.mul_one] at this
  exact this
theorem kInt_reads {w : World} {A : Option Addr} {n : Nat} {xs : List Int} (h : ReadsInt w .i64 A n xs) : kInt.C w A n xs := by
  refine ⟨h.1, h.2.1, fun hn => ?_⟩
  obtain ⟨ad, e, hc⟩ := h.2.2 hn
  refine ⟨ad, e, fun j p hp => ⟨[.int .i64 p], rfl, rfl, fun i u hu => ?_⟩⟩
  have hi : i = 0 := by
    rcases i with _ | i
    · rfl
    · simp at hu
  subst hi
  simp only [List.getElem?_cons_zero, Option.some.injEq] at hu
  subst hu
  have hj := (List.getElem?_eq_some_iff.1 hp).1
  have := hc j (by rw [← h.1]; exact hj)
  rw [List.getD_eq_getElem?_getD, hp] at this
  rw [show j * kInt.sz + 0 = j from Nat.mul_one j]
  exact this
theorem cut_mid (A : Option Addr) (c1 : Nat) (ns : List Int) (a b : Nat) (h1 : a ≤ b) (hm : b ≤ ns.length) (hc : ns.length ≤ c1) (ai bi : Int) (ha : ai = (a : Int)) (hb : bi = (b : Int)) :
    ∃ (A' : Option Addr) (c' : Nat) (sub : List Int), sub = (ns.take b).drop a ∧ (∀ W : World, (Instr.slice 61 (.slice A ns.length c1) (some (.int .i64 ai)) (some (.int .i64 bi)) none).run Try.prog W = .ok (.slice A' sub.length c') W) ∧ ∀ w : World, kInt.C w A ns.length ns → kInt.C w A' sub.length sub := by
  have hinfo : ((Try.prog.info? 2).map (·.size)) = some 1 := by kernel_rfl
  obtain ⟨ti, hti, hts⟩ := Option.map_eq_some_iff.1 hinfo
  obtain ⟨A', h2, h3, _⟩ := print_mid_int (P := Try.prog) (k := .i64) 61 2 Try.underlying61 hti hts A c1 ns ai bi (by omega) (by omega) (by omega) hc
  have e1 : ai.toNat = a := by omega
  have e2 : bi.toNat = b := by omega
  rw [e1, e2] at h3
  rw [e1, e2] at h2
  exact ⟨A', _, _, rfl, h2, fun w h => kInt_reads (h3 w (reads_kInt h))⟩
theorem cut_end (A : Option Addr) (c1 : Nat) (ns : List Int) (a : Nat) (hm : a ≤ ns.length) (hc : ns.length ≤ c1) (ai : Int) (ha : ai = (a : Int)) :
    ∃ (A' : Option Addr) (c' : Nat) (sub : List Int), sub = ns.drop a ∧ (∀ W : World, (Instr.slice 61 (.slice A ns.length c1) (some (.int .i64 ai)) none none).run Try.prog W = .ok (.slice A' sub.length c') W) ∧ ∀ w : World, kInt.C w A ns.length ns → kInt.C w A' sub.length sub := by
  have hinfo : ((Try.prog.info? 2).map (·.size)) = some 1 := by kernel_rfl
  obtain ⟨ti, hti, hts⟩ := Option.map_eq_some_iff.1 hinfo
  obtain ⟨A', h2, h3, _⟩ := print_drop_of (P := Try.prog) (Value.int .i64) (0 : Int) 61 2 .i64 Try.underlying61 hti hts A c1 ns ai (by omega) (by omega) hc
  have e1 : ai.toNat = a := by omega
  rw [e1] at h3
  rw [e1] at h2
  exact ⟨A', _, _, rfl, h2, fun w h => kInt_reads (readsInt_of.2 (h3 w (readsInt_of.1 (reads_kInt h))))⟩
section
variable (w : World)
set_option maxRecDepth 100000 in
set_option maxHeartbeats 4000000 in
theorem spec_DecodeCode (A : Option Addr) (c : Nat) (bs : List Int) (hr : kByte.C w A bs.length bs) (hb : ∀ b, b ∈ bs → 0 ≤ b ∧ b < 256) (hl : bs.length ≤ 1048576) :
    Calls Try.prog 29 #[.slice A bs.length c] w fun e w' => ∃ u, e = .returned u ∧ OwnCode w' w.heap.size u (decode bs) ∧ Below w.heap.size w w' := by
  have HR := Aside0.mk hr; have HY := Aside0.mk hb; clear hr hb
  have HB0 := Aside0.mk (below_alloc (Below.refl w.heap.size w) (.cells #[.int .i64 0, .int .i64 0, .slice none 0 0, .slice none 0 0, .slice none 0 0] 32))
  have HA0 := Aside0.mk (al_new w (.cells #[.int .i64 0, .int .i64 0, .slice none 0 0, .slice none 0 0, .slice none 0 0] 32))
  go_enter Try.func29, Try.ntmps29
  go_wp2_with fail
  go_at_call 66
  refine (spec_numbers _ A c bs (Kd.C_below HR.out HB0.out) HY.out hl).mono ?_
  rintro e w1 ⟨v1, rfl, hns, hb⟩
  have HB1 := Aside0.mk (bel_call HB0.out hb); have HA1 := Aside0.mk (blk_below HA0.out hb); clear hb HB0 HA0
  cases hp : parse bs with
  | none =>
    have HD := Aside0.mk (decode_none hp); clear hp hns
    simp only [Option.isSome_none]
    obtain ⟨b1, b2⟩ := lay (Below.refl _ _) HA1.out
    go_wp2
    refine bodyPost_ret (v := .agg #[.int .i64 0, .int .i64 0, .slice none 0 0, .slice none 0 0, .slice none 0 0]) (by simp [results, Try.results29, go_sem, b1, b2]) rfl ⟨_, rfl, by rw [HD.out]; exact zero_own _ _, ?_⟩
    with_reducible repeat (first | exact HB1.out | refine bel_set ?_ (by omega) _)
  | some ns =>
    have HNS := Aside0.mk (hns ns hp); clear hns
    obtain ⟨A1, c1, rfl⟩ := Kd.R_slice HNS.out
    have HC1 := Aside0.mk (Kd.R_reads' HNS.out).2
    have hnl := HC1.out.2.2.1
    simp only [Option.isSome_some]
    have HPP := Aside0.mk hp; clear hp
    by_cases h5 : ns.length < 5
    · have HD := Aside0.mk (decode_bad HPP.out (by unfold nsOk; rw [decide_eq_false (by omega)]; rfl))
      have p5 : decide ((ns.length : Int) < 5) = true := decide_eq_true (by omega)
      obtain ⟨b1, b2⟩ := lay (Below.refl _ _) HA1.out
      go_wp2
      refine bodyPost_ret (v := .agg #[.int .i64 0, .int .i64 0, .slice none 0 0, .slice none 0 0, .slice none 0 0]) (by simp [results, Try.results29, go_sem, b1, b2]) rfl ⟨_, rfl, by rw [HD.out]; exact zero_own _ _, ?_⟩
      with_reducible repeat (first | exact HB1.out | refine bel_set ?_ (by omega) _)
    have p5 : decide ((ns.length : Int) < 5) = false := decide_eq_false (by omega)
    have hcell : ∀ t, t < 5 → ∃ ad, A1 = some ad ∧ w1.cell? (ad.add t) = some (.int .i64 (ns.getD t 0)) := fun t ht => by
      obtain ⟨ad, e0, t0, _⟩ := Kd.flat_cells (d := kInt) rfl HC1.out.2 0 t (by omega)
      have := t0 _ rfl; simp only [Nat.mul_one] at this
      exact ⟨ad, e0, this⟩
    obtain ⟨ad, rfl, z0⟩ := hcell 0 (by omega)
    obtain ⟨_, e1, z1⟩ := hcell 1 (by omega); cases e1
    obtain ⟨_, e1, z2⟩ := hcell 2 (by omega); cases e1
    obtain ⟨_, e1, z3⟩ := hcell 3 (by omega); cases e1
    obtain ⟨_, e1, z4⟩ := hcell 4 (by omega); cases e1
    clear hcell
    rw [add_succ ad 1 (by omega)] at z1
    rw [add_succ ad 2 (by omega)] at z2
    rw [add_succ ad 3 (by omega)] at z3
    rw [add_succ ad 4 (by omega)] at z4
    have h55 : 5 ≤ ns.length := by omega
    generalize g0 : ns.getD 0 0 = n0 at z0
    generalize g1 : ns.getD 1 0 = n1 at z1
    generalize g2 : ns.getD 2 0 = n2 at z2
    generalize g3 : ns.getD 3 0 = n3 at z3
    generalize g4 : ns.getD 4 0 = n4 at z4
    have HOK := Aside0.mk (show nsOk ns = (inB n2 0 16384 && inB n3 0 16384 && inB n4 0 16384 && decide ((ns.length : Int) = 5 + 4 * (n2 + n3 + n4))) by unfold nsOk; rw [decide_eq_true h55, g2, g3, g4]; rfl)
    have HCO := Aside0.mk (show nsCode ns = ⟨n0, n1, rowsFrom ns 5 n2.toNat, rowsFrom ns (5 + 4 * n2.toNat) n3.toNat, rowsFrom ns (5 + 4 * (n2.toNat + n3.toNat)) n4.toNat⟩ by unfold nsCode codeOf; rw [g0, g1, g2, g3, g4])
    clear g0 g1 g2 g3 g4
    obtain ⟨b1, b2⟩ := lay (Below.refl _ _) HA1.out
    go_wp2_with fail
    go_at_call 56
    refine (spec_l1In _ _ _ _).mono ?_
    rintro e w' ⟨rfl, rfl⟩
    cases hX : inB n2 0 16384 with
    | false =>
      have HD := Aside0.mk (decode_bad HPP.out (by rw [HOK.out, hX]; simp)); clear hX
      go_wp2
      refine bodyPost_ret (v := .agg #[.int .i64 0, .int .i64 0, .slice none 0 0, .slice none 0 0, .slice none 0 0]) (by simp [results, Try.results29, go_sem, b1, b2]) rfl ⟨_, rfl, by rw [HD.out]; exact zero_own _ _, ?_⟩
      with_reducible repeat (first | exact HB1.out | refine bel_set ?_ (by omega) _)
    | true =>
    have HX := Aside0.mk hX; clear hX
    go_wp2_with fail
    go_at_call 56
    refine (spec_l1In _ _ _ _).mono ?_
    rintro e w' ⟨rfl, rfl⟩
    cases hY : inB n3 0 16384 with
    | false =>
      have HD := Aside0.mk (decode_bad HPP.out (by rw [HOK.out, hY]; simp)); clear hY
      go_wp2
      refine bodyPost_ret (v := .agg #[.int .i64 0, .int .i64 0, .slice none 0 0, .slice none 0 0, .slice none 0 0]) (by simp [results, Try.results29, go_sem, b1, b2]) rfl ⟨_, rfl, by rw [HD.out]; exact zero_own _ _, ?_⟩
      with_reducible repeat (first | exact HB1.out | refine bel_set ?_ (by omega) _)
    | true =>
    have HY2 := Aside0.mk hY; clear hY
    go_wp2_with fail
    go_at_call 56
    refine (spec_l1In _ _ _ _).mono ?_
    rintro e w' ⟨rfl, rfl⟩
    cases hZ : inB n4 0 16384 with
    | false =>
      have HD := Aside0.mk (decode_bad HPP.out (by rw [HOK.out, hZ]; simp)); clear hZ
      go_wp2
      refine bodyPost_ret (v := .agg #[.int .i64 0, .int .i64 0, .slice none 0 0, .slice none 0 0, .slice none 0 0]) (by simp [results, Try.results29, go_sem, b1, b2]) rfl ⟨_, rfl, by rw [HD.out]; exact zero_own _ _, ?_⟩
      with_reducible repeat (first | exact HB1.out | refine bel_set ?_ (by omega) _)
    | true =>
    have HZ := Aside0.mk hZ; clear hZ
    obtain ⟨x, rfl⟩ : ∃ x : Nat, n2 = (x : Int) := ⟨n2.toNat, by have := (inB_iff _ _ _).1 HX.out; omega⟩
    obtain ⟨y, rfl⟩ : ∃ y : Nat, n3 = (y : Int) := ⟨n3.toNat, by have := (inB_iff _ _ _).1 HY2.out; omega⟩
    obtain ⟨z, rfl⟩ : ∃ z : Nat, n4 = (z : Int) := ⟨n4.toNat, by have := (inB_iff _ _ _).1 HZ.out; omega⟩
    have hx : x ≤ 16384 := by have := (inB_iff _ _ _).1 HX.out; omega
    have hy : y ≤ 16384 := by have := (inB_iff _ _ _).1 HY2.out; omega
    have hz : z ≤ 16384 := by have := (inB_iff _ _ _).1 HZ.out; omega
    by_cases hlen : ns.length = 5 + 4 * (x + y + z)
    rotate_left
    · have HD := Aside0.mk (decode_bad HPP.out (by rw [HOK.out, decide_eq_false (show ¬ ((ns.length : Int) = 5 + 4 * ((x : Int) + y + z)) by omega)]; simp))
      have pl1 : ((ns.length : Int) == 5 + 4 * ((x : Int) + (y : Int) + (z : Int))) = false := beq_eq_false_iff_ne.2 (by omega)
      have pl2 : ((ns.length : Int) != 5 + 4 * ((x : Int) + (y : Int) + (z : Int))) = true := by simp only [bne, pl1]; rfl
      have pl3 : ¬ ((ns.length : Int) = 5 + 4 * ((x : Int) + (y : Int) + (z : Int))) := by omega
      have HLEN := Aside0.mk hlen; clear hlen
      go_wp2
      refine bodyPost_ret (v := .agg #[.int .i64 0, .int .i64 0, .slice none 0 0, .slice none 0 0, .slice none 0 0]) (by simp [results, Try.results29, go_sem, b1, b2]) rfl ⟨_, rfl, by rw [HD.out]; exact zero_own _ _, ?_⟩
      with_reducible repeat (first | exact HB1.out | refine bel_set ?_ (by omega) _)
    have HOKT := Aside0.mk (show nsOk ns = true by rw [HOK.out, HX.out, HY2.out, HZ.out, decide_eq_true (show ((ns.length : Int) = 5 + 4 * ((x : Int) + y + z)) by omega)]; rfl)
    have pl1 : ((ns.length : Int) == 5 + 4 * ((x : Int) + (y : Int) + (z : Int))) = true := beq_iff_eq.2 (by omega)
    have pl2 : ((ns.length : Int) != 5 + 4 * ((x : Int) + (y : Int) + (z : Int))) = false := by simp only [bne, pl1]; rfl
    have HLEN := Aside0.mk hlen; clear hlen
    go_wp2_with fail
    clear b1 b2 z2 z3 z4
    have z0a : w1.cell? ad = some (.int .i64 n0) := by rw [show ad.add 0 = ad by unfold Addr.add; split <;> simp_all] at z0; exact z0
    have h0n : 0 < ns.length := by omega
    have h1m : 1 < ns.length := by omega
    have h1n : (1 : Int) < (ns.length : Int) := by omega
    -- REGION9
    refine start_ (n := 9) (S := fun w' => w'.cell? (ad.add 0) = some (.int .i64 n0) ∧ w'.cell? ad = some (.int .i64 n0) ∧ w'.cell? ⟨ad.block, ad.off + 1, none⟩ = some (.int .i64 n1)) (ds := [8]) #[false, false, false, false, false, false, false, false, false] (by kernel_rfl) rfl rfl ⟨pw_cell_below (below_drew (Below.refl _ _)) z0, pw_cell_below (below_drew (Below.refl _ _)) z0a, pw_cell_below (below_drew (Below.refl _ _)) z1⟩ (fun hHeld => ?_)
    refine pure_ (i := 0) (N := some 57) (v := ?_) (a' := ?_) #[true, false, false, false, false, false, false, false, false] rfl rfl (by kernel_rfl) (fun _ _ _ h => h) (Or.inl ⟨by rfl, ?_⟩) ?_ ?_
    rotate_left
    · intro w'
      go_simp
      with_reducible rfl
    rotate_left
    · simp only [Act.put, List.setIfInBounds_toArray, List.set_cons_zero, List.set_cons_succ, i64_w, i32_w]
      rfl
    refine pure_ (i := 1) (N := some 58) (v := ?_) (a' := ?_) #[true, true, false, false, false, false, false, false, false] rfl rfl (by kernel_rfl) (fun _ _ _ h => h) (Or.inl ⟨by rfl, ?_⟩) ?_ ?_
    rotate_left
    · intro w'
      go_simp
      with_reducible rfl
    rotate_left
    · simp only [Act.put, List.setIfInBounds_toArray, List.set_cons_zero, List.set_cons_succ, i64_w, i32_w]
      rfl
    refine pure_ (i := 3) (N := some 60) (v := ?_) (a' := ?_) #[true, true, false, true, false, false, false, false, false] rfl rfl (by kernel_rfl) (fun _ _ _ h => h) (Or.inl ⟨by rfl, ?_⟩) ?_ ?_
    rotate_left
    · intro w'
      go_simp
      with_reducible rfl
    rotate_left
    · simp only [Act.put, List.setIfInBounds_toArray, List.set_cons_zero, List.set_cons_succ, i64_w, i32_w]
      rfl
    refine pure_ (i := 4) (N := some 61) (v := ?_) (a' := ?_) #[true, true, false, true, true, false, false, false, false] rfl rfl (by kernel_rfl) (fun _ _ _ h => h) (Or.inl ⟨by rfl, ?_⟩) ?_ ?_
    rotate_left
    · intro w'
      go_simp
      with_reducible rfl
    rotate_left
    · simp only [Act.put, List.setIfInBounds_toArray, List.set_cons_zero, List.set_cons_succ, i64_w, i32_w]
      rfl
    refine take_ (i := 2) (N := some 59) (v := ?_) (a' := ?_) #[true, true, true, true, true, false, false, false, false] rfl rfl (by kernel_rfl) (fun _ _ _ h => h) (Or.inl ⟨by rfl, ?_⟩) hHeld ?_ ?_
    rotate_left
    · rintro w' ⟨s0, s1, s2⟩
      go_simp
      with_reducible rfl
    rotate_left
    · simp only [Act.put, List.setIfInBounds_toArray, List.set_cons_zero, List.set_cons_succ, i64_w, i32_w]
      rfl
    refine take_ (i := 5) (N := some 62) (v := ?_) (a' := ?_) #[true, true, true, true, true, true, false, false, false] rfl rfl (by kernel_rfl) (fun _ _ _ h => h) (Or.inl ⟨by rfl, ?_⟩) hHeld ?_ ?_
    rotate_left
    · rintro w' ⟨s0, s1, s2⟩
      go_simp
      with_reducible rfl
    rotate_left
    · simp only [Act.put, List.setIfInBounds_toArray, List.set_cons_zero, List.set_cons_succ, i64_w, i32_w]
      rfl
    refine pure_ (i := 6) (N := some 63) (v := ?_) (a' := ?_) #[true, true, true, true, true, true, true, false, false] rfl rfl (by kernel_rfl) (fun _ _ _ h => h) (Or.inl ⟨by rfl, ?_⟩) ?_ ?_
    rotate_left
    · intro w'
      go_simp
      with_reducible rfl
    rotate_left
    · simp only [Act.put, List.setIfInBounds_toArray, List.set_cons_zero, List.set_cons_succ, i64_w, i32_w]
      rfl
    refine one_ (i := 7) (N := some 8) #[true, true, true, true, true, true, true, true, false] rfl rfl (by kernel_rfl) (by decide) (fun K hK => ?_)
    refine value_ (w1 := ?_) (v := ?_) (by rfl) rfl ?_ ?_
    rotate_left 2
    · go_simp
      constructor
      · rfl
      · rfl
    refine hK.out _ _ ⟨pw_cell_below (below_alloc (Below.refl _ _) (.cells #[.int .i64 0, .int .i64 0, .slice none 0 0, .slice none 0 0, .slice none 0 0] 32)) hHeld.1, pw_cell_below (below_alloc (Below.refl _ _) (.cells #[.int .i64 0, .int .i64 0, .slice none 0 0, .slice none 0 0, .slice none 0 0] 32)) hHeld.2.1, pw_cell_below (below_alloc (Below.refl _ _) (.cells #[.int .i64 0, .int .i64 0, .slice none 0 0, .slice none 0 0, .slice none 0 0] 32)) hHeld.2.2⟩ (fun hHeld => ?_)
    clear hK K
    refine norm_ (a' := ?_) ?_ ?_
    rotate_left
    · show Act.put _ (some 8) _ = _
      simp only [Act.put, List.setIfInBounds_toArray, List.set_cons_zero, List.set_cons_succ, i64_w, i32_w]
      rfl
    refine last_ (i := 8) (N := none) #[true, true, true, true, true, true, true, true, true] rfl rfl (by kernel_rfl) (by decide) (fun K hK => ?_)
    refine skip_ (w1 := ?_) (by rfl) rfl ?_ ?_
    rotate_left
    · go_simp
      rfl
    refine hK.out _ _ ?_
    clear hK K
    refine done_ (by kernel_rfl) ?_
    -- END9
    have HB9 := Aside0.mk (below_drew (below_alloc HB1.out (.cells #[.int .i64 n0, .int .i64 n1, .slice none 0 0, .slice none 0 0, .slice none 0 0] 32)))
    have HA9 := Aside0.mk (blk_drew (blk_box HA1.out (.cells #[.int .i64 n0, .int .i64 n1, .slice none 0 0, .slice none 0 0, .slice none 0 0] 32)))
    have HT9 := Aside0.mk (blk_drew (al_new w1 (.cells #[.int .i64 n0, .int .i64 n1, .slice none 0 0, .slice none 0 0, .slice none 0 0] 32)))
    have HN9 := Aside0.mk (Kd.R_drew (Kd.R_alloc (Kd.fresh (base := w.heap.size) HNS.out (World.grownBy_alloc w _ none).size) (.cells #[.int .i64 n0, .int .i64 n1, .slice none 0 0, .slice none 0 0, .slice none 0 0] 32)))
    have hs9 : (w1.alloc (.cells #[.int .i64 n0, .int .i64 n1, .slice none 0 0, .slice none 0 0, .slice none 0 0] 32)).drew.heap.size = w1.heap.size + 1 := al_size w1 (.cells #[.int .i64 n0, .int .i64 n1, .slice none 0 0, .slice none 0 0, .slice none 0 0] 32)
    generalize (w1.alloc (.cells #[.int .i64 n0, .int .i64 n1, .slice none 0 0, .slice none 0 0, .slice none 0 0] 32)).drew = w9 at HB9 HA9 HT9 HN9 hs9
    have HS9 := Aside0.mk hs9; clear hs9
    have HPL1 := Aside0.mk (show w.heap.size < w1.heap.size from blk_lt HA1.out)
    obtain ⟨A5, c5, s5, hs5, cut5, rd5⟩ := cut_mid (some ad) c1 ns 5 (5 + 4 * x) (by omega) (by have := HLEN.out; omega) HC1.out.1 5 (5 + 4 * (x : Int)) rfl (by omega)
    obtain ⟨A6, c6, s6, hs6, cut6, rd6⟩ := cut_mid (some ad) c1 ns (5 + 4 * x) (5 + 4 * x + 4 * y) (by omega) (by have := HLEN.out; omega) HC1.out.1 (5 + 4 * (x : Int)) (5 + 4 * ((x : Int) + (y : Int))) (by omega) (by omega)
    obtain ⟨A7, c7, s7, hs7, cut7, rd7⟩ := cut_end (some ad) c1 ns (5 + 4 * (x + y)) (by have := HLEN.out; omega) HC1.out.1 (5 + 4 * ((x : Int) + (y : Int))) (by omega)
    have R5 := Aside0.mk (show s5.length = 4 * x ∧ rowsOf s5 x = rowsFrom ns 5 x from ⟨by rw [hs5, List.length_drop, List.length_take]; have := HLEN.out; omega, by rw [hs5]; exact rows_sub ns 5 x (by have := HLEN.out; omega)⟩)
    have R6 := Aside0.mk (show s6.length = 4 * y ∧ rowsOf s6 y = rowsFrom ns (5 + 4 * x) y from ⟨by rw [hs6, List.length_drop, List.length_take]; have := HLEN.out; omega, by rw [hs6]; exact rows_sub ns (5 + 4 * x) y (by have := HLEN.out; omega)⟩)
    have R7 := Aside0.mk (show s7.length = 4 * z ∧ rowsOf s7 z = rowsFrom ns (5 + 4 * (x + y)) z from ⟨by rw [hs7, List.length_drop]; have := HLEN.out; omega, by rw [hs7]; have h := rows_sub ns (5 + 4 * (x + y)) z (by have := HLEN.out; omega); rw [List.take_of_length_le (by have := HLEN.out; omega)] at h; exact h⟩)
    have D5 := Aside0.mk rd5; have D6 := Aside0.mk rd6; have D7 := Aside0.mk rd7
    clear hs5 hs6 hs7 rd5 rd6 rd7
    go_wp2_with fail
    go_at_call 67
    refine (spec_block _ A5 c5 x s5 (D5.out _ (Kd.R_reads' HN9.out).2.2) R5.out.1 (by omega)).mono ?_
    rintro e w10 ⟨v5, rfl, hr5, hb⟩
    rw [R5.out.2] at hr5
    have hf5 := Kd.fresh (base := w.heap.size) hr5 HB9.out.size
    have hz5 := hb.size
    obtain ⟨E5, e5, rfl⟩ := Kd.R_slice hf5
    obtain ⟨d1, d2⟩ := lay (Below.refl _ _) (blk_below HT9.out hb)
    have T10 := blk_set (blk_below HT9.out hb) 2 (.slice E5 (rowsFrom ns 5 x).length e5)
    simp only [List.setIfInBounds_toArray, List.set_cons_zero, List.set_cons_succ] at T10
    have HT10 := Aside0.mk T10; clear T10
    have HA10 := Aside0.mk (blk_far (p := ⟨w1.heap.size, 2, none⟩) (blk_below HA9.out hb) (by have := HPL1.out; simp only; omega) (.slice E5 (rowsFrom ns 5 x).length e5))
    have HB10 := Aside0.mk (bel_set (b := w1.heap.size) (o := 2) (bel_call HB9.out hb) (by have := HPL1.out; omega) (.slice E5 (rowsFrom ns 5 x).length e5))
    have HN10 := Aside0.mk (Kd.R_far (p := ⟨w1.heap.size, 2, none⟩) (Kd.R_below HN9.out hb) (fun q hq => by have := hq.2; simp only; omega) (.slice E5 (rowsFrom ns 5 x).length e5))
    have O5_10 := Aside0.mk (Kd.R_far (p := ⟨w1.heap.size, 2, none⟩) hf5 (fun q hq => by have := hq.1; have := HS9.out; simp only; omega) (.slice E5 (rowsFrom ns 5 x).length e5))
    have HZ5 := Aside0.mk (show w1.heap.size + 1 ≤ w10.heap.size ∧ w9.heap.size ≤ w10.heap.size from by have := HS9.out; omega)
    clear hb hr5 hf5 hz5 HT9 HA9 HB9 HN9
    go_wp2_with fail
    clear d1 d2
    go_at_call 67
    refine (spec_block _ A6 c6 y s6 (D6.out _ (Kd.R_reads' HN10.out).2.2) R6.out.1 (by omega)).mono ?_
    rintro e w11 ⟨v6, rfl, hr6, hb⟩
    rw [R6.out.2] at hr6
    have hf6 := Kd.fresh (base := w.heap.size) hr6 HB10.out.size
    simp only [World.size_setCell] at hf6
    have hz6 := hb.size
    simp only [World.size_setCell] at hz6
    obtain ⟨E6, e6, rfl⟩ := Kd.R_slice hf6
    obtain ⟨d1, d2⟩ := lay (Below.refl _ _) (blk_below HT10.out hb)
    have T11 := blk_set (blk_below HT10.out hb) 3 (.slice E6 (rowsFrom ns (5 + 4 * x) y).length e6)
    simp only [List.setIfInBounds_toArray, List.set_cons_zero, List.set_cons_succ] at T11
    have HT11 := Aside0.mk T11; clear T11
    have HA11 := Aside0.mk (blk_far (p := ⟨w1.heap.size, 3, none⟩) (blk_below HA10.out hb) (by have := HPL1.out; simp only; omega) (.slice E6 (rowsFrom ns (5 + 4 * x) y).length e6))
    have HB11 := Aside0.mk (bel_set (b := w1.heap.size) (o := 3) (bel_call HB10.out hb) (by have := HPL1.out; omega) (.slice E6 (rowsFrom ns (5 + 4 * x) y).length e6))
    have HN11 := Aside0.mk (Kd.R_far (p := ⟨w1.heap.size, 3, none⟩) (Kd.R_below HN10.out hb) (fun q hq => by have := hq.2; simp only; omega) (.slice E6 (rowsFrom ns (5 + 4 * x) y).length e6))
    have O5_11 := Aside0.mk (Kd.R_far (p := ⟨w1.heap.size, 3, none⟩) (Kd.R_below O5_10.out hb) (fun q hq => by have := hq.1; have := HS9.out; simp only; omega) (.slice E6 (rowsFrom ns (5 + 4 * x) y).length e6))
    have O6_11 := Aside0.mk (Kd.R_far (p := ⟨w1.heap.size, 3, none⟩) hf6 (fun q hq => by have := hq.1; have := HS9.out; have := HZ5.out; have := HZ5.out; simp only; omega) (.slice E6 (rowsFrom ns (5 + 4 * x) y).length e6))
    have HZ6 := Aside0.mk (show w1.heap.size + 1 ≤ w11.heap.size ∧ w10.heap.size ≤ w11.heap.size from by have := HS9.out; have := HZ5.out; have := HZ5.out; omega)
    clear hb hr6 hf6 hz6 HT10 HA10 HB10 HN10 O5_10
    go_wp2_with fail
    clear d1 d2
    go_at_call 67
    refine (spec_block _ A7 c7 z s7 (D7.out _ (Kd.R_reads' HN11.out).2.2) R7.out.1 (by omega)).mono ?_
    rintro e w12 ⟨v7, rfl, hr7, hb⟩
    rw [R7.out.2] at hr7
    have hf7 := Kd.fresh (base := w.heap.size) hr7 HB11.out.size
    simp only [World.size_setCell] at hf7
    have hz7 := hb.size
    simp only [World.size_setCell] at hz7
    obtain ⟨E7, e7, rfl⟩ := Kd.R_slice hf7
    obtain ⟨d1, d2⟩ := lay (Below.refl _ _) (blk_below HT11.out hb)
    have T12 := blk_set (blk_below HT11.out hb) 4 (.slice E7 (rowsFrom ns (5 + 4 * (x + y)) z).length e7)
    simp only [List.setIfInBounds_toArray, List.set_cons_zero, List.set_cons_succ] at T12
    have HT12 := Aside0.mk T12; clear T12
    have HA12 := Aside0.mk (blk_far (p := ⟨w1.heap.size, 4, none⟩) (blk_below HA11.out hb) (by have := HPL1.out; simp only; omega) (.slice E7 (rowsFrom ns (5 + 4 * (x + y)) z).length e7))
    have HB12 := Aside0.mk (bel_set (b := w1.heap.size) (o := 4) (bel_call HB11.out hb) (by have := HPL1.out; omega) (.slice E7 (rowsFrom ns (5 + 4 * (x + y)) z).length e7))
    have HN12 := Aside0.mk (Kd.R_far (p := ⟨w1.heap.size, 4, none⟩) (Kd.R_below HN11.out hb) (fun q hq => by have := hq.2; simp only; omega) (.slice E7 (rowsFrom ns (5 + 4 * (x + y)) z).length e7))
    have O5_12 := Aside0.mk (Kd.R_far (p := ⟨w1.heap.size, 4, none⟩) (Kd.R_below O5_11.out hb) (fun q hq => by have := hq.1; have := HS9.out; simp only; omega) (.slice E7 (rowsFrom ns (5 + 4 * (x + y)) z).length e7))
    have O6_12 := Aside0.mk (Kd.R_far (p := ⟨w1.heap.size, 4, none⟩) (Kd.R_below O6_11.out hb) (fun q hq => by have := hq.1; have := HS9.out; have := HZ5.out; simp only; omega) (.slice E7 (rowsFrom ns (5 + 4 * (x + y)) z).length e7))
    have O7_12 := Aside0.mk (Kd.R_far (p := ⟨w1.heap.size, 4, none⟩) hf7 (fun q hq => by have := hq.1; have := HS9.out; have := HZ5.out; have := HZ6.out; simp only; omega) (.slice E7 (rowsFrom ns (5 + 4 * (x + y)) z).length e7))
    have HZ7 := Aside0.mk (show w1.heap.size + 1 ≤ w12.heap.size ∧ w11.heap.size ≤ w12.heap.size from by have := HS9.out; have := HZ5.out; have := HZ6.out; omega)
    clear hb hr7 hf7 hz7 HT11 HA11 HB11 HN11 O5_11 O6_11
    go_wp2_with fail
    clear d1 d2
    have HCX := Aside0.mk (show nsCode ns = (⟨n0, n1, rowsFrom ns 5 x, rowsFrom ns (5 + 4 * x) y, rowsFrom ns (5 + 4 * (x + y)) z⟩ : Code) by rw [HCO.out]; simp only [Int.toNat_natCast])
    clear HCO HOK
    go_at_call 19
    refine (spec_ValidCode _ _ (⟨n0, n1, rowsFrom ns 5 x, rowsFrom ns (5 + 4 * x) y, rowsFrom ns (5 + 4 * (x + y)) z⟩ : Code) ⟨E5, e5, E6, e6, E7, e7, rfl, (Kd.R_reads' O5_12.out).2.2, (Kd.R_reads' O6_12.out).2.2, (Kd.R_reads' O7_12.out).2.2⟩).mono ?_
    rintro e w13 ⟨rfl, hb⟩
    have HB13 := Aside0.mk (bel_call HB12.out hb); have HA13 := Aside0.mk (blk_below HA12.out hb); have HT13 := Aside0.mk (blk_below HT12.out hb)
    have Q5 := Aside0.mk (Kd.R_below O5_12.out hb); have Q6 := Aside0.mk (Kd.R_below O6_12.out hb); have Q7 := Aside0.mk (Kd.R_below O7_12.out hb); clear hb HB12 HA12 HT12 HN12 O5_12 O6_12 O7_12
    obtain ⟨b1, b2⟩ := lay (Below.refl _ _) HA13.out
    obtain ⟨d1, d2⟩ := lay (Below.refl _ _) HT13.out
    rw [← HCX.out]
    cases hv : (nsCode ns).valid with
    | false =>
      have HD := Aside0.mk (decode_inv HPP.out hv); clear hv
      go_wp2
      refine bodyPost_ret (v := .agg #[.int .i64 0, .int .i64 0, .slice none 0 0, .slice none 0 0, .slice none 0 0]) (by simp [results, Try.results29, go_sem, b1, b2]) rfl ⟨_, rfl, by rw [HD.out]; exact zero_own _ _, ?_⟩
      with_reducible repeat (first | exact HB13.out | refine bel_set ?_ (by omega) _)
    | true =>
      have HD := Aside0.mk (decode_good HPP.out HOKT.out hv); clear hv
      go_wp2
      refine bodyPost_ret (v := .agg #[.int .i64 n0, .int .i64 n1, .slice E5 (rowsFrom ns 5 x).length e5, .slice E6 (rowsFrom ns (5 + 4 * x) y).length e6, .slice E7 (rowsFrom ns (5 + 4 * (x + y)) z).length e7]) (by simp [results, Try.results29, go_sem, b1, b2]) rfl ⟨_, rfl, ?_, ?_⟩
      · rw [HD.out, HCX.out]
        have hp := HPL1.out; have hs := HS9.out; have z5 := HZ5.out; have z6 := HZ6.out; have z7 := HZ7.out
        refine ⟨_, _, _, w10.heap.size, w11.heap.size, rfl, by omega, ?_, ?_, ?_⟩
        · refine Kd.R_mono (ok := fun q => w9.heap.size ≤ q ∧ q < w10.heap.size) ?_ (fun q hq => hq.2)
          with_reducible repeat (first | exact Q5.out | refine Kd.R_far ?_ (fun q hq => by have := hq.1; simp only; omega) _)
        · refine Kd.R_mono (ok := fun q => w10.heap.size ≤ q ∧ q < w11.heap.size) ?_ (fun q hq => hq)
          with_reducible repeat (first | exact Q6.out | refine Kd.R_far ?_ (fun q hq => by have := hq.1; simp only; omega) _)
        · refine Kd.R_mono (ok := fun q => w11.heap.size ≤ q ∧ q < w12.heap.size) ?_ (fun q hq => hq.1)
          with_reducible repeat (first | exact Q7.out | refine Kd.R_far ?_ (fun q hq => by have := hq.1; simp only; omega) _)
      · with_reducible repeat (first | exact HB13.out | refine bel_set ?_ (by omega) _)
end
end Go.Proofs.Ytmjpajaeffhdeaa.L1
