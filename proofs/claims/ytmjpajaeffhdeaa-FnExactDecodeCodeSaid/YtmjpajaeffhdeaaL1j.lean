/- Legs: what Travel of a valid instance answers, as the reference tells it. -/
import Derived.Test.YtmjpajaeffhdeaaL1i
import Derived.Test.YtmjpajaeffhdeaaG0
namespace Go.Proofs.Ytmjpajaeffhdeaa.L1
open Go.RowKit Go.Proofs.YtmjpajaeffhdeaaW.PrintWords Go.Proofs.Ytmjpajaeffhdeaa.B
set_option linter.unusedVariables false
set_option linter.unusedSimpArgs false
attribute [local go_sem] mk_cell mk_frozen
def absI (n : Int) : Int := if n < 0 then -n else n
def Place.dist (p q : Place) : Int := absI (p.x - q.x) + absI (p.y - q.y)
/-- Does the road lead from a to b. -/
def Road.on (r : Road) (a b : Int) : Bool := decide (r.a = a) && decide (r.b = b)
def Inst.leg (x : Inst) (a b : Int) : Int := if a = b then 0 else match x.rs.find? (fun r => r.on a b) with | some r => r.t | none => (x.placeAt a).dist (x.placeAt b)
theorem find_none {x : Inst} {a b : Int} (h : ∀ j, j < x.rs.length → (x.rs.getD j zR).on a b = false) : x.rs.find? (fun r => r.on a b) = none := by
  rw [List.find?_eq_none]
  intro r hr
  obtain ⟨j, hj, rfl⟩ := List.getElem_of_mem hr
  have := h j hj
  rw [List.getD_eq_getElem?_getD, List.getElem?_eq_getElem hj] at this
  simpa using this
theorem find_first {x : Inst} {a b : Int} {k : Nat} (hk : k < x.rs.length) (h : ∀ j, j < k → (x.rs.getD j zR).on a b = false) (hh : (x.rs.getD k zR).on a b = true) : x.rs.find? (fun r => r.on a b) = some (x.rs.getD k zR) := by
  have e : ∀ j (hj : j < x.rs.length), x.rs.getD j zR = x.rs[j] := fun j hj => by rw [List.getD_eq_getElem?_getD, List.getElem?_eq_getElem hj]; rfl
  rw [List.find?_eq_some_iff_getElem]
  refine ⟨hh, k, hk, (e k hk).symm, fun j hj => ?_⟩
  rw [← e j (by omega), h j hj]
  rfl
theorem leg_same (x : Inst) (a : Int) : x.leg a a = 0 := by simp [Inst.leg]
theorem leg_first {x : Inst} {a b : Int} {k : Nat} (hne : a ≠ b) (hk : k < x.rs.length) (h : ∀ j, j < k → (x.rs.getD j zR).on a b = false) (hh : (x.rs.getD k zR).on a b = true) : x.leg a b = (x.rs.getD k zR).t := by
  unfold Inst.leg
  rw [if_neg hne, find_first hk h hh]
theorem leg_none {x : Inst} {a b : Int} (hne : a ≠ b) (h : ∀ j, j < x.rs.length → (x.rs.getD j zR).on a b = false) : x.leg a b = (x.placeAt a).dist (x.placeAt b) := by
  unfold Inst.leg
  rw [if_neg hne, find_none h]
/-- What the legs ask of an instance: it is small, its places are near. -/
def Inst.near (x : Inst) : Prop := ∀ n, -10000 ≤ (x.placeAt n).x ∧ (x.placeAt n).x ≤ 10000 ∧ -10000 ≤ (x.placeAt n).y ∧ (x.placeAt n).y ≤ 10000
section
variable (w : World)
theorem spec_abs (n : Int) (h0 : -9223372036854775807 ≤ n) (h1 : n ≤ 9223372036854775807) : Calls Try.prog 130 #[.int .i64 n] w fun e w' => e = .returned (.int .i64 (absI n)) ∧ w' = w := by
  rcases Int.lt_or_le n 0 with h | h
  · have hd : decide (n < 0) = true := by simp; omega
    have q0 : IntKind.i64.wrap (-n) = -n := IntWalk.i64_in _ (by omega)
    have q1 : wrap64 (-n) = -n := IntWalk.wrap64_in _ (by omega)
    have ha : absI n = -n := by unfold absI; rw [if_pos h]
    go_enter Try.func130, Try.ntmps130
    go_wp2
    go_ret
    exact ⟨by rw [ha]; rfl, rfl⟩
  · have hd : decide (n < 0) = false := by simp; omega
    have ha : absI n = n := by unfold absI; rw [if_neg (by omega)]
    go_enter Try.func130, Try.ntmps130
    go_wp2
    go_ret
    exact ⟨by rw [ha]; rfl, rfl⟩
set_option maxRecDepth 100000 in
set_option maxHeartbeats 2000000 in
theorem spec_leg (v : Value) (x : Inst) (hr : ReadInst w v x) (f0 : x.vs.length ≤ 64) (f1 : x.qs.length ≤ 1000) (f2 : x.rs.length ≤ 4000) (hn : x.near) (a b : Int) (a0 : 0 ≤ a) (a1 : a < x.nodes) (b0 : 0 ≤ b) (b1 : b < x.nodes) : Calls Try.prog 94 #[v, .int .i64 a, .int .i64 b] w fun e w' => e = .returned (.int .i64 (x.leg a b)) ∧ Below w.heap.size w w' := by
  obtain ⟨A0, c0, A1, c1, A2, c2, rfl, r0, r1, r2⟩ := hr
  have HR := Aside0.mk (And.intro r0 (And.intro r1 r2)); clear r0 r1 r2
  have HN := Aside0.mk hn; clear hn
  have HAB := Aside0.mk (And.intro a0 (And.intro a1 (And.intro b0 b1))); clear a0 a1 b0 b1
  go_enter Try.func94, Try.ntmps94
  by_cases hab : a = b
  · subst hab
    go_wp2
    go_ret
    exact ⟨by rw [leg_same]; rfl, below_alloc (Below.refl _ _) _⟩
  have hd : decide (a = b) = false := by simp [hab]
  have hdb : (a == b) = false := by simp [hab]
  go_wp2_with fail
  have HB := Aside0.mk (below_alloc (Below.refl w.heap.size w) (.cells #[.slice A0 x.vs.length c0, .slice A1 x.qs.length c1, .slice A2 x.rs.length c2] 55))
  have HA := Aside0.mk (al_new w (.cells #[.slice A0 x.vs.length c0, .slice A1 x.qs.length c1, .slice A2 x.rs.length c2] 55))
  have HNE := Aside0.mk hab; clear hab hd hdb
  go_loopg [7] (x.rs.length + 1) (fun q v wr => ∃ k, q = x.rs.length + 1 - k ∧ k ≤ x.rs.length ∧ v = .int .i64 k ∧ Aside0 (∀ j, j < k → (x.rs.getD j zR).on a b = false) ∧ Aside0 (wr.heap[w.heap.size]? = some (.cells #[.slice A0 x.vs.length c0, .slice A1 x.qs.length c1, .slice A2 x.rs.length c2] 55 (0, 0))) ∧ Aside0 (Below w.heap.size w wr))
  case atStart => exact ⟨0, by omega, by omega, rfl, ⟨fun j hj => by omega⟩, HA, HB⟩
  case round =>
    clear HA HB
    obtain ⟨k, rfl, hk, rfl, HG, HA, HB⟩ := hrel
    obtain ⟨b1, b2⟩ := lay (Below.refl _ _) HA.out
    by_cases hlt : k < x.rs.length
    · obtain ⟨ad, e0, h0, h1⟩ := Kd.flat_cells (d := kRoad) rfl (Kd.C_below HR.out.2.2 HB.out) zR k hlt
      cases e0
      have hf := fun h => leg_first HNE.out hlt HG.out h
      have HS := Aside0.mk (show (x.rs.getD k zR).on a b = false → ∀ j, j < k + 1 → (x.rs.getD j zR).on a b = false from fun h j hj => by rcases Nat.lt_or_ge j k with h2 | h2; exact HG.out j h2; rwa [show j = k by omega])
      generalize hy : x.rs.getD k zR = y at h0 h1 hf HS
      have HF := Aside0.mk hf; clear hf hy
      have d0 := h0 _ rfl; have d1 := h1 0 _ rfl; have d2 := h1 1 _ rfl
      clear h0 h1
      by_cases ha : y.a = a
      · have g0 : decide (y.a = a) = true := by simp [ha]
        have g0b : (y.a == a) = true := by simp [ha]
        by_cases hb : y.b = b
        · have g1 : decide (y.b = b) = true := by simp [hb]
          have g1b : (y.b == b) = true := by simp [hb]
          have HT := Aside0.mk (HF.out (by unfold Road.on; rw [g0, g1]; rfl)); clear ha hb
          go_wp2
          go_ret
          exact ⟨by rw [HT.out]; rfl, HB.out⟩
        · have g1 : decide (y.b = b) = false := by simp [hb]
          have g1b : (y.b == b) = false := by simp [hb]
          have HT := Aside0.mk (HS.out (by unfold Road.on; rw [g0, g1]; rfl)); clear ha hb
          go_wp2
          go_roundg (x.rs.length + 1 - (k + 1))
          case measure => omega
          case rel => exact ⟨k + 1, rfl, hlt, by go_num, HT, HA, HB⟩
      · have g0 : decide (y.a = a) = false := by simp [ha]
        have g0b : (y.a == a) = false := by simp [ha]
        have HT := Aside0.mk (HS.out (by unfold Road.on; rw [g0]; rfl)); clear ha
        go_wp2
        go_roundg (x.rs.length + 1 - (k + 1))
        case measure => omega
        case rel => exact ⟨k + 1, rfl, hlt, by go_num, HT, HA, HB⟩
    · have hkk : k = x.rs.length := by omega
      have HL := Aside0.mk (leg_none HNE.out (hkk ▸ HG.out)); clear hkk HG
      have hpq := And.intro (HN.out a) (HN.out b)
      have HLD := HL.out
      unfold Place.dist at HLD
      obtain ⟨p, hp⟩ : ∃ p, x.placeAt a = p := ⟨_, rfl⟩
      obtain ⟨q, hq⟩ : ∃ q, x.placeAt b = q := ⟨_, rfl⟩
      rw [hp, hq] at hpq HLD
      have HPQ := Aside0.mk hpq; have HD := Aside0.mk HLD; have HP := Aside0.mk hp; have HQ := Aside0.mk hq
      clear hpq HLD hp hq HL
      go_wp2_with fail
      clear b1 b2
      have c := spec_placeOf wr (.agg #[.slice A0 x.vs.length c0, .slice A1 x.qs.length c1, .slice A2 x.rs.length c2]) x (ReadInst.below ⟨_, _, _, _, _, _, rfl, HR.out⟩ HB.out) f0 f1 a HAB.out.1 HAB.out.2.1
      rw [HP.out] at c
      unfold Place.val at c
      refine c.mono ?_
      clear c
      rintro e w2 ⟨rfl, hb⟩
      have HB1 := Aside0.mk (bel_call HB.out hb); have HA1 := Aside0.mk (blk_below HA.out hb); clear hb HA HB
      obtain ⟨b1, b2⟩ := lay (Below.refl _ _) HA1.out
      obtain ⟨b3, b4⟩ := lay (Below.refl _ _) (blk_box HA1.out (.cells #[.int .i64 p.x, .int .i64 p.y, .int .i64 p.o, .int .i64 p.c, .int .i64 p.h] 107))
      go_wp2_with fail
      clear b1 b2 b3 b4
      have HB2 := Aside0.mk (bel_box HB1.out (.cells #[.int .i64 p.x, .int .i64 p.y, .int .i64 p.o, .int .i64 p.c, .int .i64 p.h] 107)); have HA2 := Aside0.mk (blk_box HA1.out (.cells #[.int .i64 p.x, .int .i64 p.y, .int .i64 p.o, .int .i64 p.c, .int .i64 p.h] 107)); have HZ2 := Aside0.mk (al_new w2 (.cells #[.int .i64 p.x, .int .i64 p.y, .int .i64 p.o, .int .i64 p.c, .int .i64 p.h] 107)); clear HB1 HA1
      have c := spec_placeOf (w2.alloc (.cells #[.int .i64 p.x, .int .i64 p.y, .int .i64 p.o, .int .i64 p.c, .int .i64 p.h] 107)) (.agg #[.slice A0 x.vs.length c0, .slice A1 x.qs.length c1, .slice A2 x.rs.length c2]) x (ReadInst.below ⟨_, _, _, _, _, _, rfl, HR.out⟩ HB2.out) f0 f1 b HAB.out.2.2.1 HAB.out.2.2.2
      rw [HQ.out] at c
      unfold Place.val at c
      refine c.mono ?_
      clear c
      rintro e w3 ⟨rfl, hb⟩
      have HB3 := Aside0.mk (bel_call HB2.out hb); have HZ3 := Aside0.mk (blk_below HZ2.out hb); clear hb HA2 HB2 HZ2
      go_wp2_with fail
      have HB4 := Aside0.mk (bel_box HB3.out (.cells #[.int .i64 q.x, .int .i64 q.y, .int .i64 q.o, .int .i64 q.c, .int .i64 q.h] 107)); have z := blk_box HZ3.out (.cells #[.int .i64 q.x, .int .i64 q.y, .int .i64 q.o, .int .i64 q.c, .int .i64 q.h] 107); have y := al_new w3 (.cells #[.int .i64 q.x, .int .i64 q.y, .int .i64 q.o, .int .i64 q.c, .int .i64 q.h] 107); clear HB3 HZ3
      have z0 := blk_cell z 0; have z1 := blk_cell z 1; have y0 := blk_cell y 0; have y1 := blk_cell y 1; clear z y
      simp only [List.getElem?_toArray, List.getElem?_cons_zero, List.getElem?_cons_succ] at z0 z1 y0 y1
      refine Grow.wp_region_growB (by kernel_rfl) (by kernel_rfl) ?_
      have k0 : IntKind.i64.wrap (p.x - q.x) = p.x - q.x := IntWalk.i64_in _ (by have := HPQ.out; omega)
      have k1 : IntKind.i64.wrap (p.y - q.y) = p.y - q.y := IntWalk.i64_in _ (by have := HPQ.out; omega)
      have k2 : IntKind.i64.wrap (absI (p.x - q.x) + absI (p.y - q.y)) = absI (p.x - q.x) + absI (p.y - q.y) := IntWalk.i64_in _ (by have := HPQ.out; unfold absI; split <;> split <;> omega)
      have K3 := Aside0.mk (show (-9223372036854775807 ≤ p.x - q.x ∧ p.x - q.x ≤ 9223372036854775807) ∧ (-9223372036854775807 ≤ p.y - q.y ∧ p.y - q.y ≤ 9223372036854775807) by have := HPQ.out; omega)
      repeat ((first | (refine Grow.lex_skip (by rfl) ?_) | (refine Grow.lex_do _ (by rfl) (by intro W hj; have t0 := pw_cell_below hj.out z0; have t1 := pw_cell_below hj.out z1; have t2 := pw_cell_below hj.out y0; have t3 := pw_cell_below hj.out y1; go_simp; first | exact Grow.Upon.val hj | exact Grow.Upon.callB hj ((spec_abs W _ K3.out.1.1 K3.out.1.2).mono fun e w' h => ⟨h.1, by rw [h.2]; exact Below.refl _ _⟩) | exact Grow.Upon.callB hj ((spec_abs W _ K3.out.2.1 K3.out.2.2).mono fun e w' h => ⟨h.1, by rw [h.2]; exact Below.refl _ _⟩)) ?_)); refine Grow.lex_norm (fun K hK => ?_); go_simp; refine hK _ ?_; clear hK K)
      refine Grow.lex_nil (fun W hj => ?_)
      have HB5 := Aside0.mk (bel_call HB4.out hj.out); clear hj z0 z1 y0 y1 k0 k1 k2
      go_wp2
      go_ret
      exact ⟨by rw [HD.out]; rfl, HB5.out⟩
end
end Go.Proofs.Ytmjpajaeffhdeaa.L1
