/- Legs, as the program tells them: a search by halves. What comes in is opened: a struct of whole numbers, a row of them. The law FnExactValidInst: what came in is opened, and the law's own walk. -/
import Derived.Test.YtlhpbpkefkabgaaGreatQS6
import Derived.Lib.SmallJoins
import Derived.Test.YtlhpbpkefkabgaaGreatQS2
import Derived.Deep.Slices
import Derived.Deep.Strs
import Derived.Test.YtlhpbpkefkabgaaGreatQS5
namespace Go.Proofs.YtlhpbpkefkabgaaGreat.L1
open Go.RowKit Go.Proofs.YtlhpbpkefkabgaaGreatW.PrintWords Go.Proofs.YtlhpbpkefkabgaaGreat.B
set_option linter.unusedVariables false
set_option linter.unusedSimpArgs false
attribute [local go_sem] mk_cell mk_frozen
theorem set_size (W : World) (a : Addr) (v : Value) : (W.setCell a v).heap.size = W.heap.size := by
  unfold World.setCell
  split <;> simp
def Inst.sorted (x : Inst) : Prop := ∀ i j, i < j → j < x.rs.length → (x.rs.getD i zR).lt (x.rs.getD j zR) = true
theorem Road.lt_iff (r s : Road) : r.lt s = true ↔ (r.a < s.a ∨ (r.a = s.a ∧ r.b < s.b)) := by unfold Road.lt; simp
theorem Road.on_iff (r : Road) (a b : Int) : r.on a b = true ↔ (r.a = a ∧ r.b = b) := by unfold Road.on; simp
theorem Road.on_not {r : Road} {a b : Int} (h : ¬(r.a = a ∧ r.b = b)) : r.on a b = false := by
  cases hh : r.on a b with
  | false => rfl
  | true => exact absurd ((Road.on_iff _ _ _).1 hh) h
theorem Inst.sorted_of {x : Inst} (h : x.valid = true) : x.sorted := by
  have hall : ∀ k, k < x.rs.length → roadAt x.nodes x.rs k = true := by
    intro k hk
    cases hh : roadAt x.nodes x.rs k with
    | true => rfl
    | false => rw [Inst.valid_rs hk hh] at h; cases h
  intro i j
  induction j with
  | zero => intro h; omega
  | succ j ih =>
    intro hij hj
    have h1 := hall (j + 1) hj
    have h2 : (x.rs.getD j zR).lt (x.rs.getD (j + 1) zR) = true := by
      unfold roadAt at h1
      simp at h1
      simpa using h1.2
    rcases Nat.lt_or_ge i j with h3 | h3
    · have := (Road.lt_iff _ _).1 (ih h3 (by omega)); have h4 := (Road.lt_iff _ _).1 h2
      rw [Road.lt_iff]; omega
    · rwa [show i = j by omega]
theorem srch_hit {x : Inst} (hs : x.sorted) {a b : Int} {k : Nat} (hk : k < x.rs.length) (h : (x.rs.getD k zR).on a b = true) : ∀ j, j < k → (x.rs.getD j zR).on a b = false := fun j hj => Road.on_not fun h2 => by
  have h1 := (Road.on_iff _ _ _).1 h
  have := (Road.lt_iff _ _).1 (hs j k hj hk)
  omega
theorem srch_lo {x : Inst} (hs : x.sorted) {a b : Int} {k : Nat} (hk : k < x.rs.length) (h : (x.rs.getD k zR).lt ⟨a, b, 0⟩ = true) : ∀ j, j < k + 1 → (x.rs.getD j zR).on a b = false := fun j hj => Road.on_not fun h2 => by
  have h1 := (Road.lt_iff _ _).1 h
  simp only at h1
  rcases Nat.lt_or_ge j k with h3 | h3
  · have := (Road.lt_iff _ _).1 (hs j k h3 hk); omega
  · rw [show j = k by omega] at h2; omega
theorem srch_hi {x : Inst} (hs : x.sorted) {a b : Int} {k : Nat} (h : ¬(x.rs.getD k zR).lt ⟨a, b, 0⟩ = true) (h' : ¬((x.rs.getD k zR).a = a ∧ (x.rs.getD k zR).b = b)) : ∀ j, k ≤ j → j < x.rs.length → (x.rs.getD j zR).on a b = false := fun j hj hl => Road.on_not fun h2 => by
  rw [Road.lt_iff] at h
  simp only at h
  rcases Nat.lt_or_ge k j with h3 | h3
  · have := (Road.lt_iff _ _).1 (hs k j h3 hl); omega
  · rw [show j = k by omega] at h2; omega
section
variable (w : World)
set_option maxRecDepth 100000 in
set_option maxHeartbeats 8000000 in
theorem impl_travel (v : Value) (x : Inst) (hr : ReadInst w v x) (f0 : x.vs.length ≤ 64) (f1 : x.qs.length ≤ 1000) (f2 : x.rs.length ≤ 4000) (hn : x.near) (hs : x.sorted) (a b : Int) (a0 : 0 ≤ a) (a1 : a < x.nodes) (b0 : 0 ≤ b) (b1 : b < x.nodes) : Calls Tryz.prog 105 #[v, .int .i64 a, .int .i64 b] w fun e w' => e = .returned (.int .i64 (x.leg a b)) ∧ Below w.heap.size w w' := by
  obtain ⟨A0, c0, A1, c1, A2, c2, rfl, r0, r1, r2⟩ := hr
  have HR := sA (And.intro r0 (And.intro r1 r2)); clear r0 r1 r2
  have HN := sA hn; have HO := sA hs; clear hn hs
  have HAB := sA (And.intro a0 (And.intro a1 (And.intro b0 b1))); clear a0 a1 b0 b1
  go_enter Tryz.func105, Tryz.ntmps105
  by_cases hab : a = b
  · subst hab
    go_wp2
    go_ret
    exact ⟨by rw [leg_same]; rfl, bA (Below.refl _ _) _⟩
  have hd : decide (a = b) = false := by simp [hab]
  have hdb : (a == b) = false := by simp [hab]
  go_wp2_with fail
  have HNE := sA hab; clear hab hd hdb
  have HB := sA (bA (Below.refl w.heap.size w) (.cells #[.slice A0 x.vs.length c0, .slice A1 x.qs.length c1, .slice A2 x.rs.length c2] 47))
  have HA := sA (al_new w (.cells #[.slice A0 x.vs.length c0, .slice A1 x.qs.length c1, .slice A2 x.rs.length c2] 47))
  have g2 := blk_cell HA.out 2
  simp only [List.getElem?_toArray, List.getElem?_cons_zero, List.getElem?_cons_succ] at g2
  refine Grow.wp_region_growB (by kernel_rfl) (by kernel_rfl) ?_
  repeat ((first | (refine Grow.lex_skip (by rfl) ?_) | (refine Grow.lex_do _ (by rfl) (by intro W hj; have t0 := pC hj.out g2; go_simp; exact Grow.Upon.val hj) ?_)); refine Grow.lex_norm (fun K hK => ?_); go_simp; refine hK _ ?_; clear hK K)
  refine Grow.lex_nil (fun w1 hj => ?_)
  have HB1 := sA (bC HB.out hj.out); have HA1 := sA (bB HA.out hj.out); clear hj g2 HB HA
  go_wp2_with fail
  have HB2 := sA (bel_box HB1.out (.cells #[.int .i64 a, .int .i64 b, .int .i64 0] 114)); have HA2 := sA (blk_box HA1.out (.cells #[.int .i64 a, .int .i64 b, .int .i64 0] 114)); have HW2 := sA (al_new w1 (.cells #[.int .i64 a, .int .i64 b, .int .i64 0] 114)); clear HB1 HA1
  go_loopg [7, 8] (x.rs.length + 1) (fun q v v2 wr => ∃ lo hi : Nat, q = hi - lo + 1 ∧ lo ≤ hi ∧ hi ≤ x.rs.length ∧ v = .int .i64 lo ∧ v2 = .int .i64 hi ∧ Aside0 ((∀ j, j < lo → (x.rs.getD j zR).on a b = false) ∧ (∀ j, hi ≤ j → j < x.rs.length → (x.rs.getD j zR).on a b = false)) ∧ Aside0 (wr.heap[w.heap.size]? = some (.cells #[.slice A0 x.vs.length c0, .slice A1 x.qs.length c1, .slice A2 x.rs.length c2] 47 (0, 0))) ∧ Aside0 (wr.heap[w1.heap.size]? = some (.cells #[.int .i64 a, .int .i64 b, .int .i64 0] 114 (0, 0))) ∧ Aside0 (Below w.heap.size w wr))
  case atStart => exact ⟨0, x.rs.length, by omega, by omega, by omega, rfl, rfl, ⟨⟨fun j hj => by omega, fun j hj hl => by omega⟩⟩, HA2, HW2, HB2⟩
  case round =>
    clear HA2 HB2 HW2
    obtain ⟨lo, hi, rfl, hle, hhi, rfl, rfl, HG, HA, HW, HB⟩ := hrel
    by_cases hlt : lo < hi
    · obtain ⟨s, hs⟩ : ∃ s, s = lo + hi := ⟨_, rfl⟩
      obtain ⟨m, hm⟩ : ∃ m, m = s / 2 := ⟨_, rfl⟩
      have hml : lo ≤ m ∧ m < hi := by omega
      have e0 : IntKind.i64.wrap ((lo : Int) + (hi : Int)) = (s : Int) := by rw [IntWalk.i64_in _ (by omega)]; omega
      have e1 : (s : Int) / 2 = (m : Int) := by omega
      have e2 : wrap64 ((s : Int) / 2) = (m : Int) := by rw [e1]; exact IntWalk.wrap64_in _ (by omega)
      have hmm : m < x.rs.length := by omega
      have hdl : decide ((lo : Int) < (hi : Int)) = true := by simp; omega
      obtain ⟨ad, e3, h0, h1⟩ := Kd.flat_cells (d := kRoad) rfl (Kd.C_below HR.out.2.2 HB.out) zR m hmm
      cases e3
      have HH := sA (fun h => leg_first HNE.out hmm (srch_hit HO.out hmm h) h)
      have HL := sA (fun h => srch_lo (a := a) (b := b) HO.out hmm h)
      have HU := sA (fun h h' => srch_hi (a := a) (b := b) (k := m) HO.out h h')
      generalize x.rs.getD m zR = y at h0 h1 HH HL HU
      have d0 := h0 _ rfl; have d1 := h1 0 _ rfl; have d2 := h1 1 _ rfl
      clear h0 h1
      obtain ⟨c, hc⟩ : ∃ c, y.cmp ⟨a, b, 0⟩ = c := ⟨_, rfl⟩
      have hneg := Road.cmp_neg y ⟨a, b, 0⟩
      have hzero := Road.cmp_zero y ⟨a, b, 0⟩
      rw [hc] at hneg hzero
      have HC := sA hc; have HGN := sA hneg; have HGZ := sA hzero; clear hc hneg hzero hs hm
      have z2 := blk_cell HA.out 2
      have y0 := blk_cell HW.out 0; have y1 := blk_cell HW.out 1; have y2 := blk_cell HW.out 2
      simp only [List.getElem?_toArray, List.getElem?_cons_zero, List.getElem?_cons_succ] at z2 y0 y1 y2
      go_wp2_with fail
      refine Grow.wp_region_growB (by kernel_rfl) (by kernel_rfl) ?_
      repeat ((first | (refine Grow.lex_skip (by rfl) ?_) | (refine Grow.lex_do _ (by rfl) (by intro W hj; have t0 := pC hj.out z2; have t1 := pC hj.out y0; have t2 := pC hj.out y1; have t3 := pC hj.out y2; have t4 := pC hj.out d0; have t5 := pC hj.out d1; have t6 := pC hj.out d2; go_simp; first | exact Grow.Upon.val hj | (have k := impl_compare W y ⟨a, b, 0⟩; rw [HC.out] at k; exact Grow.Upon.callB hj k)) ?_)); refine Grow.lex_norm (fun K hK => ?_); go_simp; refine hK _ ?_; clear hK K)
      refine Grow.lex_nil (fun w2 hj => ?_)
      have HB3 := sA (bC HB.out hj.out); have HA3 := sA (bB HA.out hj.out); have HW3 := sA (bB HW.out hj.out)
      replace d0 := pC hj.out d0; replace d1 := pC hj.out d1; replace d2 := pC hj.out d2
      clear hj HA HB HW z2 y0 y1 y2
      obtain ⟨b1, b2⟩ := lay0 HA3.out
      rcases Int.lt_trichotomy c 0 with hc0 | hc0 | hc0
      · have p0 : (c == 0) = false := by simp; omega
        have p1 : decide (c = 0) = false := by simp; omega
        have p2 : decide (c < 0) = true := by simp; omega
        have HT := sA (HL.out (HGN.out.1 hc0))
        go_wp2
        go_roundg (hi - (m + 1) + 1)
        case measure => omega
        case rel => exact ⟨m + 1, hi, rfl, by omega, hhi, by go_num, rfl, ⟨⟨HT.out, HG.out.2⟩⟩, HA3, HW3, HB3⟩
      · have p0 : (c == 0) = true := by simp; omega
        have p1 : decide (c = 0) = true := by simp; omega
        have HT := sA (HH.out ((Road.on_iff _ _ _).2 (HGZ.out.1 hc0)))
        go_wp2
        go_ret
        exact ⟨by rw [HT.out]; rfl, HB3.out⟩
      · have p0 : (c == 0) = false := by simp; omega
        have p1 : decide (c = 0) = false := by simp; omega
        have p2 : decide (c < 0) = false := by simp; omega
        have HT := sA (HU.out (fun h => by have := HGN.out.2 h; omega) (fun h => by have := HGZ.out.2 h; omega))
        go_wp2
        go_roundg (m - lo + 1)
        case measure => omega
        case rel => exact ⟨lo, m, rfl, by omega, by omega, rfl, rfl, ⟨⟨HG.out.1, HT.out⟩⟩, HA3, HW3, HB3⟩
    · have hee : lo = hi := by omega
      have hdl : decide ((lo : Int) < (hi : Int)) = false := by simp; omega
      have HL := sA (leg_none HNE.out (fun j hj => by rcases Nat.lt_or_ge j lo with h | h; exact HG.out.1 j h; exact HG.out.2 j (by omega) hj)); clear HG
      go_wp2_with fail
      -- places
      clear hdl hee hlt hle
      have hpq := And.intro (HN.out a) (HN.out b)
      have HLD := HL.out
      unfold Place.dist at HLD
      obtain ⟨p, hp⟩ : ∃ p, x.placeAt a = p := ⟨_, rfl⟩
      obtain ⟨q, hq⟩ : ∃ q, x.placeAt b = q := ⟨_, rfl⟩
      rw [hp, hq] at hpq HLD
      have HPQ := sA hpq; have HD := sA HLD; have HP := sA hp; have HQ := sA hq
      clear hpq HLD hp hq HL
      refine Grow.wp_region_inv (fun base w0 f A W => ∃ u12 u13 u52 u53 u54 u55 u56 u57 : Value, A = ((((((((base.put (some 12) u12).put (some 13) u13).put (some 52) u52).put (some 53) u53).put (some 54) u54).put (some 55) u55).put (some 56) u56).put (some 57) u57) ∧ Aside0 (Below w0.heap.size w0 W) ∧ (f 0 = true → u52 = .agg #[.slice A0 x.vs.length c0, .slice A1 x.qs.length c1, .slice A2 x.rs.length c2]) ∧ (f 1 = true → u53 = .int .i64 a) ∧ (f 2 = true → u54 = .agg #[.int .i64 p.x, .int .i64 p.y, .int .i64 p.o, .int .i64 p.c, .int .i64 p.h]) ∧ (f 3 = true → u55 = .agg #[.slice A0 x.vs.length c0, .slice A1 x.qs.length c1, .slice A2 x.rs.length c2]) ∧ (f 4 = true → u56 = .int .i64 b) ∧ (f 5 = true → u57 = .agg #[.int .i64 q.x, .int .i64 q.y, .int .i64 q.o, .int .i64 q.c, .int .i64 q.h]) ∧ (f 6 = true → ∃ b, u12 = .pointer (some ⟨b, 0, none⟩) ∧ w0.heap.size ≤ b ∧ b < W.heap.size ∧ (f 8 = false → Aside0 (W.heap[b]? = some (.cells #[.int .i64 0, .int .i64 0, .int .i64 0, .int .i64 0, .int .i64 0] 69 (0, 0)))) ∧ (f 8 = true → Aside0 (W.heap[b]? = some (.cells #[.int .i64 p.x, .int .i64 p.y, .int .i64 p.o, .int .i64 p.c, .int .i64 p.h] 69 (0, 0))))) ∧ (f 7 = true → ∃ b, u13 = .pointer (some ⟨b, 0, none⟩) ∧ w0.heap.size ≤ b ∧ b < W.heap.size ∧ (f 9 = false → Aside0 (W.heap[b]? = some (.cells #[.int .i64 0, .int .i64 0, .int .i64 0, .int .i64 0, .int .i64 0] 69 (0, 0)))) ∧ (f 9 = true → Aside0 (W.heap[b]? = some (.cells #[.int .i64 q.x, .int .i64 q.y, .int .i64 q.o, .int .i64 q.c, .int .i64 q.h] 69 (0, 0)))) ∧ (f 6 = true → u12 ≠ u13)) ∧ (f 8 = true → f 6 = true ∧ f 7 = true) ∧ (f 9 = true → f 6 = true ∧ f 7 = true)) (by kernel_rfl) (by kernel_rfl) (by kernel_rfl) ?_ ⟨?_, ?_, ?_, ?_, ?_, ?_, ?_, ?_, ?_, ?_, trivial⟩ ?_
      · exact ⟨undef, undef, undef, undef, undef, undef, undef, undef, by simp only [Act.put, List.setIfInBounds_toArray, List.set_cons_zero, List.set_cons_succ], ⟨below_drew (Below.refl _ _)⟩, fun h => (by cases h), fun h => (by cases h), fun h => (by cases h), fun h => (by cases h), fun h => (by cases h), fun h => (by cases h), fun h => (by cases h), fun h => (by cases h), fun h => (by cases h), fun h => (by cases h)⟩
      · intro f A W hp hn ⟨u12, u13, u52, u53, u54, u55, u56, u57, hA, hB, i0, i1, i2, i3, i4, i5, i6, i7, i8, i9⟩
        simp only [Act.put, List.setIfInBounds_toArray, List.set_cons_zero, List.set_cons_succ] at hA
        subst hA
        obtain ⟨b1, b2⟩ := lay hB.out HA.out
        refine Grow.wp_opaque (fun K hK => ?_)
        clear hp
        have HI := sA (And.intro i0 (And.intro i1 (And.intro i2 (And.intro i3 (And.intro i4 (And.intro i5 (And.intro i6 (And.intro i7 (And.intro i8 i9))))))))); clear i0 i1 i2 i3 i4 i5 i6 i7 i8 i9
        unfold Oper.wp
        go_simp
        refine hK _ _ ?_
        clear hK K
        obtain ⟨i0, i1, i2, i3, i4, i5, i6, i7, i8, i9⟩ := HI.out
        exact ⟨u12, u13, (.agg #[.slice A0 x.vs.length c0, .slice A1 x.qs.length c1, .slice A2 x.rs.length c2]), u53, u54, u55, u56, u57, by simp only [Act.put, List.setIfInBounds_toArray, List.set_cons_zero, List.set_cons_succ], hB, fun _ => rfl, fun h => i1 (by simpa using h), fun h => i2 (by simpa using h), fun h => i3 (by simpa using h), fun h => i4 (by simpa using h), fun h => i5 (by simpa using h), fun h => (by obtain ⟨b, x1, x2, x3, x4, x5⟩ := i6 (by simpa using h); exact ⟨b, x1, x2, x3, fun h => x4 (by simpa using h), fun h => x5 (by simpa using h)⟩), fun h => (by obtain ⟨b, x1, x2, x3, x4, x5, x6⟩ := i7 (by simpa using h); exact ⟨b, x1, x2, x3, fun h => x4 (by simpa using h), fun h => x5 (by simpa using h), fun h => x6 (by simpa using h)⟩), fun h => (by have := i8 (by simpa using h); simp [this]), fun h => (by have := i9 (by simpa using h); simp [this])⟩
      · intro f A W hp hn ⟨u12, u13, u52, u53, u54, u55, u56, u57, hA, hB, i0, i1, i2, i3, i4, i5, i6, i7, i8, i9⟩
        simp only [Act.put, List.setIfInBounds_toArray, List.set_cons_zero, List.set_cons_succ] at hA
        subst hA
        refine Grow.wp_opaque (fun K hK => ?_)
        clear hp
        have HI := sA (And.intro i0 (And.intro i1 (And.intro i2 (And.intro i3 (And.intro i4 (And.intro i5 (And.intro i6 (And.intro i7 (And.intro i8 i9))))))))); clear i0 i1 i2 i3 i4 i5 i6 i7 i8 i9
        unfold Oper.wp
        go_simp
        refine hK _ _ ?_
        clear hK K
        obtain ⟨i0, i1, i2, i3, i4, i5, i6, i7, i8, i9⟩ := HI.out
        exact ⟨u12, u13, u52, (.int .i64 a), u54, u55, u56, u57, by simp only [Act.put, List.setIfInBounds_toArray, List.set_cons_zero, List.set_cons_succ], hB, fun h => i0 (by simpa using h), fun _ => rfl, fun h => i2 (by simpa using h), fun h => i3 (by simpa using h), fun h => i4 (by simpa using h), fun h => i5 (by simpa using h), fun h => (by obtain ⟨b, x1, x2, x3, x4, x5⟩ := i6 (by simpa using h); exact ⟨b, x1, x2, x3, fun h => x4 (by simpa using h), fun h => x5 (by simpa using h)⟩), fun h => (by obtain ⟨b, x1, x2, x3, x4, x5, x6⟩ := i7 (by simpa using h); exact ⟨b, x1, x2, x3, fun h => x4 (by simpa using h), fun h => x5 (by simpa using h), fun h => x6 (by simpa using h)⟩), fun h => (by have := i8 (by simpa using h); simp [this]), fun h => (by have := i9 (by simpa using h); simp [this])⟩
      · intro f A W hp hn ⟨u12, u13, u52, u53, u54, u55, u56, u57, hA, hB, i0, i1, i2, i3, i4, i5, i6, i7, i8, i9⟩
        simp only [Act.put, List.setIfInBounds_toArray, List.set_cons_zero, List.set_cons_succ] at hA
        subst hA
        have j0 := i0 (hp { on := 0, ground := .data } (by simp) (by rfl)); subst j0
        have j1 := i1 (hp { on := 1, ground := .data } (by simp) (by rfl)); subst j1
        refine Grow.wp_opaque (fun K hK => ?_)
        clear hp
        have HI := sA (And.intro i0 (And.intro i1 (And.intro i2 (And.intro i3 (And.intro i4 (And.intro i5 (And.intro i6 (And.intro i7 (And.intro i8 i9))))))))); clear i0 i1 i2 i3 i4 i5 i6 i7 i8 i9
        have c := impl_place W (.agg #[.slice A0 x.vs.length c0, .slice A1 x.qs.length c1, .slice A2 x.rs.length c2]) x (ReadInst.below (ReadInst.below ⟨_, _, _, _, _, _, rfl, HR.out⟩ HB.out) hB.out) f0 f1 a HAB.out.1 HAB.out.2.1
        rw [HP.out] at c
        unfold Place.val at c
        unfold Oper.wp
        go_simp
        refine c.mono ?_
        clear c
        rintro e w2 ⟨rfl, hb⟩
        refine hK _ _ ?_
        clear hK K
        obtain ⟨i0, i1, i2, i3, i4, i5, i6, i7, i8, i9⟩ := HI.out
        exact ⟨u12, u13, (.agg #[.slice A0 x.vs.length c0, .slice A1 x.qs.length c1, .slice A2 x.rs.length c2]), (.int .i64 a), (.agg #[.int .i64 p.x, .int .i64 p.y, .int .i64 p.o, .int .i64 p.c, .int .i64 p.h]), u55, u56, u57, by simp only [Act.put, List.setIfInBounds_toArray, List.set_cons_zero, List.set_cons_succ], ⟨bC hB.out hb⟩, fun _ => rfl, fun _ => rfl, fun _ => rfl, fun h => i3 (by simpa using h), fun h => i4 (by simpa using h), fun h => i5 (by simpa using h), fun h => (by obtain ⟨b, x1, x2, x3, x4, x5⟩ := i6 (by simpa using h); exact ⟨b, x1, x2, by have := hb.size; omega, fun h => ⟨bB (x4 (by simpa using h)).out hb⟩, fun h => ⟨bB (x5 (by simpa using h)).out hb⟩⟩), fun h => (by obtain ⟨b, x1, x2, x3, x4, x5, x6⟩ := i7 (by simpa using h); exact ⟨b, x1, x2, by have := hb.size; omega, fun h => ⟨bB (x4 (by simpa using h)).out hb⟩, fun h => ⟨bB (x5 (by simpa using h)).out hb⟩, fun h => x6 (by simpa using h)⟩), fun h => (by have := i8 (by simpa using h); simp [this]), fun h => (by have := i9 (by simpa using h); simp [this])⟩
      · intro f A W hp hn ⟨u12, u13, u52, u53, u54, u55, u56, u57, hA, hB, i0, i1, i2, i3, i4, i5, i6, i7, i8, i9⟩
        simp only [Act.put, List.setIfInBounds_toArray, List.set_cons_zero, List.set_cons_succ] at hA
        subst hA
        obtain ⟨b1, b2⟩ := lay hB.out HA.out
        refine Grow.wp_opaque (fun K hK => ?_)
        clear hp
        have HI := sA (And.intro i0 (And.intro i1 (And.intro i2 (And.intro i3 (And.intro i4 (And.intro i5 (And.intro i6 (And.intro i7 (And.intro i8 i9))))))))); clear i0 i1 i2 i3 i4 i5 i6 i7 i8 i9
        unfold Oper.wp
        go_simp
        refine hK _ _ ?_
        clear hK K
        obtain ⟨i0, i1, i2, i3, i4, i5, i6, i7, i8, i9⟩ := HI.out
        exact ⟨u12, u13, u52, u53, u54, (.agg #[.slice A0 x.vs.length c0, .slice A1 x.qs.length c1, .slice A2 x.rs.length c2]), u56, u57, by simp only [Act.put, List.setIfInBounds_toArray, List.set_cons_zero, List.set_cons_succ], hB, fun h => i0 (by simpa using h), fun h => i1 (by simpa using h), fun h => i2 (by simpa using h), fun _ => rfl, fun h => i4 (by simpa using h), fun h => i5 (by simpa using h), fun h => (by obtain ⟨b, x1, x2, x3, x4, x5⟩ := i6 (by simpa using h); exact ⟨b, x1, x2, x3, fun h => x4 (by simpa using h), fun h => x5 (by simpa using h)⟩), fun h => (by obtain ⟨b, x1, x2, x3, x4, x5, x6⟩ := i7 (by simpa using h); exact ⟨b, x1, x2, x3, fun h => x4 (by simpa using h), fun h => x5 (by simpa using h), fun h => x6 (by simpa using h)⟩), fun h => (by have := i8 (by simpa using h); simp [this]), fun h => (by have := i9 (by simpa using h); simp [this])⟩
      · intro f A W hp hn ⟨u12, u13, u52, u53, u54, u55, u56, u57, hA, hB, i0, i1, i2, i3, i4, i5, i6, i7, i8, i9⟩
        simp only [Act.put, List.setIfInBounds_toArray, List.set_cons_zero, List.set_cons_succ] at hA
        subst hA
        refine Grow.wp_opaque (fun K hK => ?_)
        clear hp
        have HI := sA (And.intro i0 (And.intro i1 (And.intro i2 (And.intro i3 (And.intro i4 (And.intro i5 (And.intro i6 (And.intro i7 (And.intro i8 i9))))))))); clear i0 i1 i2 i3 i4 i5 i6 i7 i8 i9
        unfold Oper.wp
        go_simp
        refine hK _ _ ?_
        clear hK K
        obtain ⟨i0, i1, i2, i3, i4, i5, i6, i7, i8, i9⟩ := HI.out
        exact ⟨u12, u13, u52, u53, u54, u55, (.int .i64 b), u57, by simp only [Act.put, List.setIfInBounds_toArray, List.set_cons_zero, List.set_cons_succ], hB, fun h => i0 (by simpa using h), fun h => i1 (by simpa using h), fun h => i2 (by simpa using h), fun h => i3 (by simpa using h), fun _ => rfl, fun h => i5 (by simpa using h), fun h => (by obtain ⟨b, x1, x2, x3, x4, x5⟩ := i6 (by simpa using h); exact ⟨b, x1, x2, x3, fun h => x4 (by simpa using h), fun h => x5 (by simpa using h)⟩), fun h => (by obtain ⟨b, x1, x2, x3, x4, x5, x6⟩ := i7 (by simpa using h); exact ⟨b, x1, x2, x3, fun h => x4 (by simpa using h), fun h => x5 (by simpa using h), fun h => x6 (by simpa using h)⟩), fun h => (by have := i8 (by simpa using h); simp [this]), fun h => (by have := i9 (by simpa using h); simp [this])⟩
      · intro f A W hp hn ⟨u12, u13, u52, u53, u54, u55, u56, u57, hA, hB, i0, i1, i2, i3, i4, i5, i6, i7, i8, i9⟩
        simp only [Act.put, List.setIfInBounds_toArray, List.set_cons_zero, List.set_cons_succ] at hA
        subst hA
        have j3 := i3 (hp { on := 3, ground := .data } (by simp) (by rfl)); subst j3
        have j4 := i4 (hp { on := 4, ground := .data } (by simp) (by rfl)); subst j4
        refine Grow.wp_opaque (fun K hK => ?_)
        clear hp
        have HI := sA (And.intro i0 (And.intro i1 (And.intro i2 (And.intro i3 (And.intro i4 (And.intro i5 (And.intro i6 (And.intro i7 (And.intro i8 i9))))))))); clear i0 i1 i2 i3 i4 i5 i6 i7 i8 i9
        have c := impl_place W (.agg #[.slice A0 x.vs.length c0, .slice A1 x.qs.length c1, .slice A2 x.rs.length c2]) x (ReadInst.below (ReadInst.below ⟨_, _, _, _, _, _, rfl, HR.out⟩ HB.out) hB.out) f0 f1 b HAB.out.2.2.1 HAB.out.2.2.2
        rw [HQ.out] at c
        unfold Place.val at c
        unfold Oper.wp
        go_simp
        refine c.mono ?_
        clear c
        rintro e w2 ⟨rfl, hb⟩
        refine hK _ _ ?_
        clear hK K
        obtain ⟨i0, i1, i2, i3, i4, i5, i6, i7, i8, i9⟩ := HI.out
        exact ⟨u12, u13, u52, u53, u54, (.agg #[.slice A0 x.vs.length c0, .slice A1 x.qs.length c1, .slice A2 x.rs.length c2]), (.int .i64 b), (.agg #[.int .i64 q.x, .int .i64 q.y, .int .i64 q.o, .int .i64 q.c, .int .i64 q.h]), by simp only [Act.put, List.setIfInBounds_toArray, List.set_cons_zero, List.set_cons_succ], ⟨bC hB.out hb⟩, fun h => i0 (by simpa using h), fun h => i1 (by simpa using h), fun h => i2 (by simpa using h), fun _ => rfl, fun _ => rfl, fun _ => rfl, fun h => (by obtain ⟨b, x1, x2, x3, x4, x5⟩ := i6 (by simpa using h); exact ⟨b, x1, x2, by have := hb.size; omega, fun h => ⟨bB (x4 (by simpa using h)).out hb⟩, fun h => ⟨bB (x5 (by simpa using h)).out hb⟩⟩), fun h => (by obtain ⟨b, x1, x2, x3, x4, x5, x6⟩ := i7 (by simpa using h); exact ⟨b, x1, x2, by have := hb.size; omega, fun h => ⟨bB (x4 (by simpa using h)).out hb⟩, fun h => ⟨bB (x5 (by simpa using h)).out hb⟩, fun h => x6 (by simpa using h)⟩), fun h => (by have := i8 (by simpa using h); simp [this]), fun h => (by have := i9 (by simpa using h); simp [this])⟩
      · intro f A W hp hn ⟨u12, u13, u52, u53, u54, u55, u56, u57, hA, hB, i0, i1, i2, i3, i4, i5, i6, i7, i8, i9⟩
        simp only [Act.put, List.setIfInBounds_toArray, List.set_cons_zero, List.set_cons_succ] at hA
        subst hA
        have hlt := hB.out.size
        have n8 : f 8 = false := by cases h8 : f 8 with | false => rfl | true => rw [(i8 h8).1] at hn; cases hn
        have n9 : f 9 = false := by cases h9 : f 9 with | false => rfl | true => rw [(i9 h9).1] at hn; cases hn
        refine Grow.wp_opaque (fun K hK => ?_)
        clear hp
        have HI := sA (And.intro i0 (And.intro i1 (And.intro i2 (And.intro i3 (And.intro i4 (And.intro i5 (And.intro i6 (And.intro i7 (And.intro i8 i9))))))))); clear i0 i1 i2 i3 i4 i5 i6 i7 i8 i9
        unfold Oper.wp
        go_simp
        refine hK _ _ ?_
        clear hK K
        obtain ⟨i0, i1, i2, i3, i4, i5, i6, i7, i8, i9⟩ := HI.out
        exact ⟨(.pointer (some ⟨W.heap.size, 0, none⟩)), u13, u52, u53, u54, u55, u56, u57, by simp only [Act.put, List.setIfInBounds_toArray, List.set_cons_zero, List.set_cons_succ], ⟨bel_box hB.out _⟩, fun h => i0 (by simpa using h), fun h => i1 (by simpa using h), fun h => i2 (by simpa using h), fun h => i3 (by simpa using h), fun h => i4 (by simpa using h), fun h => i5 (by simpa using h), fun _ => ⟨W.heap.size, rfl, by omega, by rw [al_size]; omega, fun _ => ⟨al_new W (.cells #[.int .i64 0, .int .i64 0, .int .i64 0, .int .i64 0, .int .i64 0] 69)⟩, fun h => (by simp [n8] at h)⟩, fun h => (by obtain ⟨b, x1, x2, x3, x4, x5, x6⟩ := i7 (by simpa using h); exact ⟨b, x1, x2, by rw [al_size]; omega, fun _ => ⟨blk_box (x4 n9).out _⟩, fun h => (by simp [n9] at h), fun _ => by rw [x1]; intro h; simp at h <;> omega⟩), fun h => (by simp [n8] at h), fun h => (by simp [n9] at h)⟩
      · intro f A W hp hn ⟨u12, u13, u52, u53, u54, u55, u56, u57, hA, hB, i0, i1, i2, i3, i4, i5, i6, i7, i8, i9⟩
        simp only [Act.put, List.setIfInBounds_toArray, List.set_cons_zero, List.set_cons_succ] at hA
        subst hA
        have hlt := hB.out.size
        have n8 : f 8 = false := by cases h8 : f 8 with | false => rfl | true => rw [(i8 h8).2] at hn; cases hn
        have n9 : f 9 = false := by cases h9 : f 9 with | false => rfl | true => rw [(i9 h9).2] at hn; cases hn
        refine Grow.wp_opaque (fun K hK => ?_)
        clear hp
        have HI := sA (And.intro i0 (And.intro i1 (And.intro i2 (And.intro i3 (And.intro i4 (And.intro i5 (And.intro i6 (And.intro i7 (And.intro i8 i9))))))))); clear i0 i1 i2 i3 i4 i5 i6 i7 i8 i9
        unfold Oper.wp
        go_simp
        refine hK _ _ ?_
        clear hK K
        obtain ⟨i0, i1, i2, i3, i4, i5, i6, i7, i8, i9⟩ := HI.out
        exact ⟨u12, (.pointer (some ⟨W.heap.size, 0, none⟩)), u52, u53, u54, u55, u56, u57, by simp only [Act.put, List.setIfInBounds_toArray, List.set_cons_zero, List.set_cons_succ], ⟨bel_box hB.out _⟩, fun h => i0 (by simpa using h), fun h => i1 (by simpa using h), fun h => i2 (by simpa using h), fun h => i3 (by simpa using h), fun h => i4 (by simpa using h), fun h => i5 (by simpa using h), fun h => (by obtain ⟨b, x1, x2, x3, x4, x5⟩ := i6 (by simpa using h); exact ⟨b, x1, x2, by rw [al_size]; omega, fun _ => ⟨blk_box (x4 n8).out _⟩, fun h => (by simp [n8] at h)⟩), fun _ => ⟨W.heap.size, rfl, by omega, by rw [al_size]; omega, fun _ => ⟨al_new W (.cells #[.int .i64 0, .int .i64 0, .int .i64 0, .int .i64 0, .int .i64 0] 69)⟩, fun h => (by simp [n9] at h), fun h => by obtain ⟨b, x1, x2, x3, x4⟩ := i6 (by simpa using h); rw [x1]; intro h; simp at h <;> omega⟩, fun h => (by simp [n8] at h), fun h => (by simp [n9] at h)⟩
      · intro f A W hp hn ⟨u12, u13, u52, u53, u54, u55, u56, u57, hA, hB, i0, i1, i2, i3, i4, i5, i6, i7, i8, i9⟩
        simp only [Act.put, List.setIfInBounds_toArray, List.set_cons_zero, List.set_cons_succ] at hA
        subst hA
        have g6 : f 6 = true := hp { on := 6, ground := .data } (by simp) (by rfl); have g7 : f 7 = true := hp { on := 7, ground := .phase } (by simp) (by rfl)
        have j2 := i2 (hp { on := 2, ground := .data } (by simp) (by rfl)); subst j2
        obtain ⟨g, x1, x2, x3, x4, x5⟩ := i6 g6; obtain ⟨d, y1, y2, y3, y4, y5, y6⟩ := i7 g7
        subst x1 y1
        have hne : g ≠ d := fun h => y6 g6 (by rw [h])
        have hz := (x4 hn).out
        obtain ⟨b1, b2⟩ := lay0 hz
        refine Grow.wp_opaque (fun K hK => ?_)
        clear hp
        have HI := sA (And.intro i0 (And.intro i1 (And.intro i2 (And.intro i3 (And.intro i4 (And.intro i5 (And.intro i8 (And.intro i9 (And.intro x4 (And.intro x5 (And.intro y4 (And.intro y5 (And.intro y6 (And.intro hz hne)))))))))))))); clear i0 i1 i2 i3 i4 i5 i6 i7 i8 i9 x4 x5 y4 y5 y6 hz hne
        unfold Oper.wp
        go_simp
        refine hK _ _ ?_
        clear hK K
        obtain ⟨i0, i1, i2, i3, i4, i5, i8, i9, x4, x5, y4, y5, y6, hz, hne⟩ := HI.out
        have hs := (Joins.block_setCell (i := 4) (Joins.block_setCell (i := 3) (Joins.block_setCell (i := 2) (Joins.block_setCell (i := 1) (Joins.block_setCell (i := 0) hz (.int .i64 p.x)) (.int .i64 p.y)) (.int .i64 p.o)) (.int .i64 p.c)) (.int .i64 p.h))
        simp only [List.setIfInBounds_toArray, List.set_cons_zero, List.set_cons_succ] at hs
        have ho : (((((W.setCell ⟨g, 0, none⟩ (.int .i64 p.x)).setCell ⟨g, 1, none⟩ (.int .i64 p.y)).setCell ⟨g, 2, none⟩ (.int .i64 p.o)).setCell ⟨g, 3, none⟩ (.int .i64 p.c)).setCell ⟨g, 4, none⟩ (.int .i64 p.h)).heap[d]? = W.heap[d]? := by rw [Below.heap_setCell _ _ _ _ hne.symm, Below.heap_setCell _ _ _ _ hne.symm, Below.heap_setCell _ _ _ _ hne.symm, Below.heap_setCell _ _ _ _ hne.symm, Below.heap_setCell _ _ _ _ hne.symm]
        have hb := hB.out
        have hlo : d < (((((W.setCell ⟨g, 0, none⟩ (.int .i64 p.x)).setCell ⟨g, 1, none⟩ (.int .i64 p.y)).setCell ⟨g, 2, none⟩ (.int .i64 p.o)).setCell ⟨g, 3, none⟩ (.int .i64 p.c)).setCell ⟨g, 4, none⟩ (.int .i64 p.h)).heap.size := by rw [set_size, set_size, set_size, set_size, set_size]; exact y3
        exact ⟨(.pointer (some ⟨g, 0, none⟩)), (.pointer (some ⟨d, 0, none⟩)), u52, u53, (.agg #[.int .i64 p.x, .int .i64 p.y, .int .i64 p.o, .int .i64 p.c, .int .i64 p.h]), u55, u56, u57, by simp only [Act.put, List.setIfInBounds_toArray, List.set_cons_zero, List.set_cons_succ], ⟨bel_set (bel_set (bel_set (bel_set (bel_set (hb) x2 _) x2 _) x2 _) x2 _) x2 _⟩, fun h => i0 (by simpa using h), fun h => i1 (by simpa using h), fun _ => rfl, fun h => i3 (by simpa using h), fun h => i4 (by simpa using h), fun h => i5 (by simpa using h), fun _ => ⟨g, rfl, x2, blk_lt hs, fun h => (by simp at h), fun _ => ⟨hs⟩⟩, fun _ => ⟨d, rfl, y2, hlo, fun h => ⟨ho.trans (y4 (by simpa using h)).out⟩, fun h => ⟨ho.trans (y5 (by simpa using h)).out⟩, fun _ => y6 g6⟩, fun _ => (by simp [g6, g7]), fun h => (by have := i9 (by simpa using h); simp [this])⟩
      · intro f A W hp hn ⟨u12, u13, u52, u53, u54, u55, u56, u57, hA, hB, i0, i1, i2, i3, i4, i5, i6, i7, i8, i9⟩
        simp only [Act.put, List.setIfInBounds_toArray, List.set_cons_zero, List.set_cons_succ] at hA
        subst hA
        have g8 : f 8 = true := hp { on := 8, ground := .chain } (by simp) (by rfl); have g6 := (i8 g8).1; have g7 := (i8 g8).2
        have j5 := i5 (hp { on := 5, ground := .data } (by simp) (by rfl)); subst j5
        obtain ⟨g, x1, x2, x3, x4, x5⟩ := i6 g6; obtain ⟨d, y1, y2, y3, y4, y5, y6⟩ := i7 g7
        subst x1 y1
        have hne : d ≠ g := fun h => y6 g6 (by rw [h])
        have hz := (y4 hn).out
        obtain ⟨b1, b2⟩ := lay0 hz
        refine Grow.wp_opaque (fun K hK => ?_)
        clear hp
        have HI := sA (And.intro i0 (And.intro i1 (And.intro i2 (And.intro i3 (And.intro i4 (And.intro i5 (And.intro i8 (And.intro i9 (And.intro x4 (And.intro x5 (And.intro y4 (And.intro y5 (And.intro y6 (And.intro hz hne)))))))))))))); clear i0 i1 i2 i3 i4 i5 i6 i7 i8 i9 x4 x5 y4 y5 y6 hz hne
        unfold Oper.wp
        go_simp
        refine hK _ _ ?_
        clear hK K
        obtain ⟨i0, i1, i2, i3, i4, i5, i8, i9, x4, x5, y4, y5, y6, hz, hne⟩ := HI.out
        have hs := (Joins.block_setCell (i := 4) (Joins.block_setCell (i := 3) (Joins.block_setCell (i := 2) (Joins.block_setCell (i := 1) (Joins.block_setCell (i := 0) hz (.int .i64 q.x)) (.int .i64 q.y)) (.int .i64 q.o)) (.int .i64 q.c)) (.int .i64 q.h))
        simp only [List.setIfInBounds_toArray, List.set_cons_zero, List.set_cons_succ] at hs
        have ho : (((((W.setCell ⟨d, 0, none⟩ (.int .i64 q.x)).setCell ⟨d, 1, none⟩ (.int .i64 q.y)).setCell ⟨d, 2, none⟩ (.int .i64 q.o)).setCell ⟨d, 3, none⟩ (.int .i64 q.c)).setCell ⟨d, 4, none⟩ (.int .i64 q.h)).heap[g]? = W.heap[g]? := by rw [Below.heap_setCell _ _ _ _ hne.symm, Below.heap_setCell _ _ _ _ hne.symm, Below.heap_setCell _ _ _ _ hne.symm, Below.heap_setCell _ _ _ _ hne.symm, Below.heap_setCell _ _ _ _ hne.symm]
        have hb := hB.out
        have hlo : g < (((((W.setCell ⟨d, 0, none⟩ (.int .i64 q.x)).setCell ⟨d, 1, none⟩ (.int .i64 q.y)).setCell ⟨d, 2, none⟩ (.int .i64 q.o)).setCell ⟨d, 3, none⟩ (.int .i64 q.c)).setCell ⟨d, 4, none⟩ (.int .i64 q.h)).heap.size := by rw [set_size, set_size, set_size, set_size, set_size]; exact x3
        exact ⟨(.pointer (some ⟨g, 0, none⟩)), (.pointer (some ⟨d, 0, none⟩)), u52, u53, u54, u55, u56, (.agg #[.int .i64 q.x, .int .i64 q.y, .int .i64 q.o, .int .i64 q.c, .int .i64 q.h]), by simp only [Act.put, List.setIfInBounds_toArray, List.set_cons_zero, List.set_cons_succ], ⟨bel_set (bel_set (bel_set (bel_set (bel_set (hb) y2 _) y2 _) y2 _) y2 _) y2 _⟩, fun h => i0 (by simpa using h), fun h => i1 (by simpa using h), fun h => i2 (by simpa using h), fun h => i3 (by simpa using h), fun h => i4 (by simpa using h), fun _ => rfl, fun _ => ⟨g, rfl, x2, hlo, fun h => ⟨ho.trans (x4 (by simpa using h)).out⟩, fun h => ⟨ho.trans (x5 (by simpa using h)).out⟩⟩, fun _ => ⟨d, rfl, y2, blk_lt hs, fun h => (by simp at h), fun _ => ⟨hs⟩, fun _ => y6 g6⟩, fun h => (by have := i8 (by simpa using h); simp [this]), fun _ => (by simp [g6, g7])⟩
      · intro A W ⟨f, hf, u12, u13, u52, u53, u54, u55, u56, u57, hA, hB, i0, i1, i2, i3, i4, i5, i6, i7, i8, i9⟩
        have j0 := i0 (hf 0 (by decide)); subst j0
        have j1 := i1 (hf 1 (by decide)); subst j1
        have j2 := i2 (hf 2 (by decide)); subst j2
        have j3 := i3 (hf 3 (by decide)); subst j3
        have j4 := i4 (hf 4 (by decide)); subst j4
        have j5 := i5 (hf 5 (by decide)); subst j5
        obtain ⟨g, x1, x2, x3, _, x5⟩ := i6 (hf 6 (by decide)); obtain ⟨d, y1, y2, y3, _, y5, _⟩ := i7 (hf 7 (by decide))
        subst x1 y1
        have hx := x5 (hf 8 (by decide)); have hy := y5 (hf 9 (by decide)); clear x5 y5 i0 i1 i2 i3 i4 i5 i6 i7 i8 i9 hf
        simp only [Act.put, List.setIfInBounds_toArray, List.set_cons_zero, List.set_cons_succ] at hA
        subst hA
        have HB4 := sA (bC HB.out hB.out); clear hB HA HB HW x2 x3 y2 y3
        have z0 := blk_cell hx.out 0; have z1 := blk_cell hx.out 1; have y0 := blk_cell hy.out 0; have y1 := blk_cell hy.out 1; clear hx hy
        simp only [List.getElem?_toArray, List.getElem?_cons_zero, List.getElem?_cons_succ] at z0 z1 y0 y1
        have k0 : IntKind.i64.wrap (p.x - q.x) = p.x - q.x := IntWalk.i64_in _ (by have := HPQ.out; omega)
        have k1 : IntKind.i64.wrap (p.y - q.y) = p.y - q.y := IntWalk.i64_in _ (by have := HPQ.out; omega)
        have k2 : IntKind.i64.wrap (q.x - p.x) = q.x - p.x := IntWalk.i64_in _ (by have := HPQ.out; omega)
        have k3 : IntKind.i64.wrap (q.y - p.y) = q.y - p.y := IntWalk.i64_in _ (by have := HPQ.out; omega)
        go_wp2
        all_goals (go_ret; refine ⟨?_, HB4.out⟩; rw [HD.out]; have h := HPQ.out; clear HPQ; show Ending.returned (Value.int .i64 (wrap64 _)) = _; rw [IntWalk.wrap64_in _ (by omega)]; congr 2; unfold absI; split <;> split <;> omega)
end
end Go.Proofs.YtlhpbpkefkabgaaGreat.L1
set_option linter.unusedVariables false
namespace Go.Proofs.YtlhpbpkefkabgaaGreat.Open
open Go.RowKit Go.Proofs.YtlhpbpkefkabgaaGreatW.PrintWords
section
variable (P : Program)
def flatFs (r : TypeId → Option Nat) : List Field → Nat → Option Nat
  | [], off => some off
  | f :: fs, off => match r f.type with
    | some n => if f.offset = off ∧ P.cellsOf f.type = n then flatFs r fs (off + n) else none
    | none => none
/-- How many cells a type of 64 bit numbers alone has. -/
def flatN : Nat → TypeId → Option Nat
  | 0, _ => none
  | d + 1, t => match P.underlying t with
    | some (.int .i64) => some 1
    | some (.struct fs) => match flatFs P (flatN d) fs.toList 0 with
      | some n => if P.cellsOf t = n then some n else none
      | none => none
    | _ => none
end
section
variable {H : Type} {enc : TypeId × Value → H} {P : Program} {w : World} {base : Nat} {spare : Nat → Bool} {held : Bool}
theorem flat_fields {d n : Nat} {cs : List Value} (ih : ∀ (t : TypeId) (k m : Nat) (cs : List Value) (x : DataW H × List MemPlace), flatN P d t = some k → DataW.trod enc P w base spare held m t cs = some x → ∃ zs : List Int, zs.length = k ∧ cs = zs.map (Value.int .i64)) :
    ∀ (fs : List Field) (off m : Nat) (xs : List (DataW H × List MemPlace)), flatFs P (flatN P d) fs off = some m →
      (∀ (i : Nat) (f : Field), fs[i]? = some f → ∃ x, DataW.trod enc P w base spare held n f.type ((cs.drop f.offset).take (P.cellsOf f.type)) = some x) →
      ∃ zs : List Int, off + zs.length = m ∧ (cs.drop off).take zs.length = zs.map (Value.int .i64)
  | [], off, m, xs, h, _ => by
    simp only [flatFs, Option.some.injEq] at h
    exact ⟨[], by simpa using h, by simp⟩
  | f :: fs, off, m, xs, h, hx => by
    unfold flatFs at h
    cases hr : flatN P d f.type with
    | none => rw [hr] at h; cases h
    | some k =>
      rw [hr] at h
      simp only at h
      split at h
      · rename_i hc
        obtain ⟨x, hx0⟩ := hx 0 f rfl
        obtain ⟨zs1, l1, e1⟩ := ih _ _ _ _ _ hr hx0
        obtain ⟨zs2, l2, e2⟩ := flat_fields ih fs (off + k) m xs h (fun i f' hf => hx (i + 1) f' (by simpa using hf))
        rw [hc.1, hc.2] at e1
        refine ⟨zs1 ++ zs2, by simp; omega, ?_⟩
        rw [List.length_append, l1, List.take_add, e1, List.drop_drop, e2, List.map_append]
      · cases h
theorem flat_ints : ∀ (d : Nat) (t : TypeId) (k m : Nat) (cs : List Value) (x : DataW H × List MemPlace), flatN P d t = some k → DataW.trod enc P w base spare held m t cs = some x → ∃ zs : List Int, zs.length = k ∧ cs = zs.map (Value.int .i64)
  | 0, t, k, m, cs, x, h, _ => by simp [flatN] at h
  | d + 1, t, k, m, cs, x, h, hx => by
    unfold flatN at h
    split at h
    · rename_i ht
      simp only [Option.some.injEq] at h
      obtain ⟨n, rfl, _, _⟩ := DataW.trod_int ht hx
      exact ⟨[n], by simpa using h, rfl⟩
    · rename_i fs ht
      split at h
      · rename_i n hn
        split at h
        · rename_i hc
          simp only [Option.some.injEq] at h
          subst h
          obtain ⟨xs, m', rfl, rfl, hl, hlen, hf⟩ := DataW.trod_struct ht hx
          obtain ⟨zs, l1, e1⟩ := flat_fields (n := m') (cs := cs) (flat_ints d) fs.toList 0 n xs hn (fun i f hif => by
            have hi : i < xs.length := by
              have := (List.getElem?_eq_some_iff.1 hif).1
              simp at this; omega
            exact ⟨_, by simpa [List.getElem?_eq_getElem hi] using hf i f (by simpa using hif)⟩)
          refine ⟨zs, by omega, ?_⟩
          simp only [List.drop_zero] at e1
          rw [← e1, List.take_of_length_le (by omega)]
        · cases h
      · cases h
    · cases h
open Go.Proofs.YtlhpbpkefkabgaaGreatW.PrintWords.Kd in
/-- A row that came in: of any kind whose element can be told from its reading. -/
theorem open_C {α : Type} (d : Kd α) {t e : TypeId} {fuel : Nat} {cs : List Value} {x : DataW H × List MemPlace} (ht : P.underlying t = some (.slice e)) (hsz : P.cellsOf e = d.sz)
    (hel : ∀ n cs x, DataW.trod enc P w base spare held n e cs = some x → ∃ y, d.K w y cs) (h : DataW.trod enc P w base spare held fuel t cs = some x) :
    ∃ A c xs, cs = [.slice A xs.length c] ∧ d.C w A xs.length xs := by
  rcases Deep.open_slice ht h with ⟨rfl, rfl⟩ | ⟨a, len, cap, m, n, D, Pl, rfl, hb, hl, hm, hmm, rfl, hx⟩
  · exact ⟨none, 0, [], rfl, rfl, by simp, by simp⟩
  · have hlm : len ≤ m := by rw [hmm]; split <;> omega
    have hy : ∀ i, i < len → ∃ y, ∃ cs', w.cells? base (a.add (i * P.cellsOf e)) (P.cellsOf e) = some cs' ∧ d.K w y cs' := fun i hi => by
      obtain ⟨cs', h1, h2⟩ := hx i (by omega)
      obtain ⟨y, hy⟩ := hel _ _ _ h2
      exact ⟨y, cs', h1, hy⟩
    have hex : ∃ xs : List α, xs.length = len ∧ ∀ j p, xs[j]? = some p → ∃ cs', w.cells? base (a.add (j * P.cellsOf e)) (P.cellsOf e) = some cs' ∧ d.K w p cs' := by
      refine ⟨(List.range len).pmap (fun i (hi : i < len) => (hy i hi).choose) (fun i hi => by simpa using hi), by simp, fun j p hp => ?_⟩
      have hj : j < len := by simpa using (List.getElem?_eq_some_iff.1 hp).1
      have : (hy j hj).choose = p := by
        obtain ⟨hj', e⟩ := List.getElem?_eq_some_iff.1 hp
        simpa using e
      rw [← this]
      exact (hy j hj).choose_spec
    obtain ⟨xs, rfl, hxs⟩ := hex
    refine ⟨some a, cap, xs, rfl, rfl, by have : maxLen ≤ 9223372036854775807 := by decide
                                          omega, fun _ => ⟨a, rfl, fun j p hp => ?_⟩⟩
    obtain ⟨cs', h1, h2⟩ := hxs j p hp
    have hlen := d.K_len h2
    refine ⟨cs', hlen, h2, fun i u hu => ?_⟩
    unfold World.cells? at h1
    split at h1
    · have hi : i < d.sz := by have := (List.getElem?_eq_some_iff.1 hu).1; omega
      have h3 := mapM_some_get h1 i i (by rw [hsz]; simp [hi])
      rw [Deep.add_add, hsz, hu] at h3
      exact h3
    · cases h1
end
end Go.Proofs.YtlhpbpkefkabgaaGreat.Open
namespace Go.Proofs.YtlhpbpkefkabgaaGreat.L1
open Go.RowKit Go.Proofs.YtlhpbpkefkabgaaGreatW.PrintWords Go.Proofs.YtlhpbpkefkabgaaGreat.B
set_option linter.unusedVariables false
set_option linter.unusedSimpArgs false
attribute [local go_sem] mk_cell mk_frozen
section
variable {H : Type} {enc : TypeId × Value → H} {w : World} {base : Nat} {spare : Nat → Bool} {held : Bool}
theorem open_veh (n : Nat) (cs : List Value) (x : DataW H × List MemPlace) (h : DataW.trod enc Tryz.prog w base spare held n 107 cs = some x) : ∃ y : Veh, kVeh.K w y cs := by
  obtain ⟨zs, hl, rfl⟩ := Open.flat_ints 3 _ 7 n cs x (by kernel_rfl) h
  match zs, hl with
  | [a0, a1, a2, a3, a4, a5, a6], _ => exact ⟨⟨a0, a1, ⟨a2, a3, a4, a5, a6⟩⟩, rfl⟩
theorem open_req (n : Nat) (cs : List Value) (x : DataW H × List MemPlace) (h : DataW.trod enc Tryz.prog w base spare held n 112 cs = some x) : ∃ y : Req, kReq.K w y cs := by
  obtain ⟨zs, hl, rfl⟩ := Open.flat_ints 3 _ 12 n cs x (by kernel_rfl) h
  match zs, hl with
  | [a0, a1, a2, a3, a4, a5, a6, a7, a8, a9, a10, a11], _ => exact ⟨⟨a0, a1, ⟨a2, a3, a4, a5, a6⟩, ⟨a7, a8, a9, a10, a11⟩⟩, rfl⟩
theorem open_road (n : Nat) (cs : List Value) (x : DataW H × List MemPlace) (h : DataW.trod enc Tryz.prog w base spare held n 116 cs = some x) : ∃ y : Road, kRoad.K w y cs := by
  obtain ⟨zs, hl, rfl⟩ := Open.flat_ints 3 _ 3 n cs x (by kernel_rfl) h
  match zs, hl with
  | [a0, a1, a2], _ => exact ⟨⟨a0, a1, a2⟩, rfl⟩
set_option maxRecDepth 100000 in
/-- An instance that came in, by value. -/
theorem open_inst {r : Reach} {b0 : Nat} {v : Value} {d : DataW H} {p : List MemPlace} (hv : Value.okWide Tryz.prog w r b0 29 v) (h : DataW.Trod enc Tryz.prog w base spare held 29 v d p) : ∃ x, ReadInst w v x := by
  obtain ⟨v0, v1, v2, y0, y1, y2, n, rfl, rfl, rfl, h0, h1, h2⟩ := Joins.open_agg3 (Tryz.underlying29) (by kernel_rfl) (by kernel_rfl) hv h
  obtain ⟨A0, c0, vs, e0, r0⟩ := Open.open_C kVeh (Tryz.underlying25) (by kernel_rfl) open_veh h0
  obtain ⟨A1, c1, qs, e1, r1⟩ := Open.open_C kReq (Tryz.underlying26) (by kernel_rfl) open_req h1
  obtain ⟨A2, c2, rs, e2, r2⟩ := Open.open_C kRoad (Tryz.underlying27) (by kernel_rfl) open_road h2
  simp only [List.cons.injEq, and_true] at e0 e1 e2
  subst e0 e1 e2
  exact ⟨⟨vs, qs, rs⟩, A0, c0, A1, c1, A2, c2, rfl, r0, r1, r2⟩
end
section
variable (w : World)
end
end Go.Proofs.YtlhpbpkefkabgaaGreat.L1
