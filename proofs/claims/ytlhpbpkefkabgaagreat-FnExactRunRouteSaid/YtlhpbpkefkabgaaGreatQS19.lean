/- FinishState of the reference. -/
import Derived.Test.YtlhpbpkefkabgaaGreatQS18
namespace Go.Proofs.YtlhpbpkefkabgaaGreat.L1
open Go.RowKit Go.Proofs.YtlhpbpkefkabgaaGreatW.PrintWords Go.Proofs.YtlhpbpkefkabgaaGreat.B
set_option linter.unusedVariables false
set_option linter.unusedSimpArgs false
attribute [local go_sem] mk_cell mk_frozen
def verV (p : Int × Int × Int) : Value := .agg #[.int .i64 p.1, .int .i64 p.2.1, .int .i64 p.2.2]
/-- A state that is read, its registers' room told. -/
def ReadStC (w : World) (v : Value) (x : St) : Prop := ∃ A0 c0 A1 c1 A2 c2, v = .agg #[.int .i64 x.pos, .int .i64 x.rule, .int .i64 x.node, .int .i64 x.time, .int .i64 x.dist, .int .i64 x.load, .slice A0 x.s0.length c0, .slice A1 x.s1.length c1, .slice A2 x.s2.length c2] ∧
  kInt.C w A0 x.s0.length x.s0 ∧ kInt.C w A1 x.s1.length x.s1 ∧ kInt.C w A2 x.s2.length x.s2 ∧ x.s1.length ≤ c1
theorem ReadStC.read {w : World} {v : Value} {x : St} (h : ReadStC w v x) : ReadState w v x := by
  obtain ⟨A0, c0, A1, c1, A2, c2, e, h0, h1, h2, _⟩ := h
  exact ⟨A0, c0, A1, c1, A2, c2, e, h0, h1, h2⟩
theorem ReadStC.below {w w1 : World} {v : Value} {x : St} (h : ReadStC w v x) (hb : Below w.heap.size w w1) : ReadStC w1 v x := by
  obtain ⟨A0, c0, A1, c1, A2, c2, rfl, h0, h1, h2, h3⟩ := h
  exact ⟨A0, c0, A1, c1, A2, c2, rfl, Kd.C_below h0 hb, Kd.C_below h1 hb, Kd.C_below h2 hb, h3⟩
theorem OwnState.readC {w : World} {base : Nat} {v : Value} {x : St} (h : OwnState w base v x) : ReadStC w v x := by
  obtain ⟨v0, v1, v2, s1, s2, rfl, h0, h1, h2⟩ := h
  obtain ⟨A0, c0, rfl, _, r0⟩ := Kd.R_reads h0
  obtain ⟨A1, c1, rfl, hc, r1⟩ := Kd.R_reads h1
  obtain ⟨A2, c2, rfl, _, r2⟩ := Kd.R_reads h2
  exact ⟨A0, c0, A1, c1, A2, c2, rfl, r0, r1, r2, hc⟩
/-- All cells of a block written. -/
def setAll (W : World) (b : Nat) : Nat → List Value → World
  | _, [] => W
  | o, v :: vs => setAll (W.setCell ⟨b, o, none⟩ v) b (o + 1) vs
theorem setAll_far {b k : Nat} (h : k ≠ b) : ∀ (vs : List Value) (W : World) (o : Nat), (setAll W b o vs).heap[k]? = W.heap[k]?
  | [], W, o => rfl
  | v :: vs, W, o => (setAll_far h vs _ _).trans (Below.heap_setCell W ⟨b, o, none⟩ v k h)
theorem setAll_size {b : Nat} : ∀ (vs : List Value) (W : World) (o : Nat), (setAll W b o vs).heap.size = W.heap.size
  | [], W, o => rfl
  | v :: vs, W, o => (setAll_size vs _ _).trans (World.size_setCell _ _ _)
theorem setAll_below {b : Nat} {w : World} (hb : w.heap.size ≤ b) : ∀ (vs : List Value) (W : World) (o : Nat), Below w.heap.size w W → Below w.heap.size w (setAll W b o vs)
  | [], W, o, h => h
  | v :: vs, W, o, h => setAll_below hb vs _ _ (bel_set h hb v)
/-- What is told of what the region makes that lays the memory of the machine. -/
def MemG (ia ib ic base : Nat) (xa xb : List Int) (sl : Value) (T K Q R : Int) (i : Nat) (v : Value) (lo hi : Nat) (W : World) : Prop :=
  if i = ia then kInt.R 2 W base (fun _ => True) v xa else if i = ib then kInt.R 2 W base (fun _ => True) v xb
  else if i = ic then ∃ v0, v = .agg #[v0, sl, .int .i64 T, .int .i64 K, .int .i64 Q, .int .i64 R, .int .i64 (-1)] ∧ kInt.R 2 W base (fun _ => True) v0 xb
  else v = .pointer (some ⟨lo, 0, none⟩) ∧ W.heap[lo]? = some (.cells #[.slice none 0 0, .slice none 0 0, .int .i64 0, .int .i64 0, .int .i64 0, .int .i64 0, .int .i64 0] 73 (0, 0))
section
variable {ia ib ic base : Nat} {xa xb : List Int} {sl : Value} {T K Q R : Int} {i : Nat} {v : Value} {lo hi : Nat} {W W' : World}
theorem MemG.stays (hb : Below W.heap.size W W') (h : MemG ia ib ic base xa xb sl T K Q R i v lo hi W) : MemG ia ib ic base xa xb sl T K Q R i v lo hi W' := by
  unfold MemG at *
  split
  · rename_i e; rw [if_pos e] at h; exact Kd.R_below h hb
  rename_i e; rw [if_neg e] at h
  split
  · rename_i e; rw [if_pos e] at h; exact Kd.R_below h hb
  rename_i e; rw [if_neg e] at h
  split
  · rename_i e; rw [if_pos e] at h; obtain ⟨v0, e, h⟩ := h; exact ⟨v0, e, Kd.R_below h hb⟩
  · rename_i e; rw [if_neg e] at h; exact ⟨h.1, bB h.2 hb⟩
theorem MemG.a (h : kInt.R 2 W base (fun _ => True) v xa) : MemG ia ib ic base xa xb sl T K Q R ia v lo hi W := by unfold MemG; rw [if_pos rfl]; exact h
theorem MemG.b (hne : ib ≠ ia) (h : kInt.R 2 W base (fun _ => True) v xb) : MemG ia ib ic base xa xb sl T K Q R ib v lo hi W := by unfold MemG; rw [if_neg hne, if_pos rfl]; exact h
theorem MemG.c (hne : ic ≠ ia) (hne' : ic ≠ ib) {v0 : Value} (h : kInt.R 2 W base (fun _ => True) v0 xb) : MemG ia ib ic base xa xb sl T K Q R ic (.agg #[v0, sl, .int .i64 T, .int .i64 K, .int .i64 Q, .int .i64 R, .int .i64 (-1)]) lo hi W := by unfold MemG; rw [if_neg hne, if_neg hne', if_pos rfl]; exact ⟨v0, rfl, h⟩
theorem MemG.d (h1 : i ≠ ia) (h2 : i ≠ ib) (h3 : i ≠ ic) (h : W.heap[lo]? = some (.cells #[.slice none 0 0, .slice none 0 0, .int .i64 0, .int .i64 0, .int .i64 0, .int .i64 0, .int .i64 0] 73 (0, 0))) : MemG ia ib ic base xa xb sl T K Q R i (.pointer (some ⟨lo, 0, none⟩)) lo hi W := by unfold MemG; rw [if_neg h1, if_neg h2, if_neg h3]; exact ⟨rfl, h⟩
theorem MemG.a' (h : MemG ia ib ic base xa xb sl T K Q R ia v lo hi W) : kInt.R 2 W base (fun _ => True) v xa := by unfold MemG at h; rwa [if_pos rfl] at h
theorem MemG.b' (hne : ib ≠ ia) (h : MemG ia ib ic base xa xb sl T K Q R ib v lo hi W) : kInt.R 2 W base (fun _ => True) v xb := by unfold MemG at h; rwa [if_neg hne, if_pos rfl] at h
theorem MemG.c' (hne : ic ≠ ia) (hne' : ic ≠ ib) (h : MemG ia ib ic base xa xb sl T K Q R ic v lo hi W) : ∃ v0, v = .agg #[v0, sl, .int .i64 T, .int .i64 K, .int .i64 Q, .int .i64 R, .int .i64 (-1)] ∧ kInt.R 2 W base (fun _ => True) v0 xb := by unfold MemG at h; rwa [if_neg hne, if_neg hne', if_pos rfl] at h
theorem MemG.d' (h1 : i ≠ ia) (h2 : i ≠ ib) (h3 : i ≠ ic) (h : MemG ia ib ic base xa xb sl T K Q R i v lo hi W) : v = .pointer (some ⟨lo, 0, none⟩) ∧ W.heap[lo]? = some (.cells #[.slice none 0 0, .slice none 0 0, .int .i64 0, .int .i64 0, .int .i64 0, .int .i64 0, .int .i64 0] 73 (0, 0)) := by unfold MemG at h; rwa [if_neg h1, if_neg h2, if_neg h3] at h
end
theorem row_ne {e base : Nat} {W : World} {ok : Nat → Prop} {A : Option Addr} {n cap : Nat} {xs : List Int} (h : kInt.R e W base ok (.slice A n cap) xs) {b : Nat} {cs : Array Value} {t : TypeId} (hb : W.heap[b]? = some (.cells cs t (0, 0))) (ht : t ≠ e) : ∀ ad, A = some ad → 0 < n → ad.block ≠ b := fun ad he hp heq => by
  have hn := (Kd.R_reads' h).1
  obtain ⟨g, cap', hv, hg, _, cells, hcl⟩ := Kd.R_form h (by omega)
  injection hv with h1
  rw [he] at h1; injection h1 with h1
  rw [h1] at heq
  have heq : g = b := heq
  rw [heq, hb] at hcl
  injection hcl with hcl; injection hcl with _ h3
  exact ht h3
theorem row_ge {e base : Nat} {W : World} {ok : Nat → Prop} {A : Option Addr} {n cap : Nat} {xs : List Int} (h : kInt.R e W base ok (.slice A n cap) xs) : ∀ ad, A = some ad → 0 < n → base ≤ ad.block := fun ad he hp => by
  have hn := (Kd.R_reads' h).1
  obtain ⟨g, cap', hv, hg, _⟩ := Kd.R_form h (by omega)
  injection hv with h1
  rw [he] at h1; injection h1 with h1
  rw [h1]; exact hg
section
variable (w : World)
set_option maxRecDepth 100000 in
set_option maxHeartbeats 8000000 in
theorem spec_FinishState (u v1 t : Value) (c : Code) (hc : ReadCode w u c) (x : Inst) (hx : ReadInst w v1 x) (v : Int) (s : St) (hs : ReadStC w t s) (hn : s.small) : Calls Tryz.prog 8 #[u, v1, .int .i64 v, t] w fun e w' => e = .returned (verV (finV c x v s)) ∧ Below w.heap.size w w' := by
  have HX := sA (And.intro hc (And.intro hx (And.intro hs.read hs)))
  obtain ⟨A0, c0, A1, c1, A2, c2, rfl, a0, a1, a2⟩ := hc
  obtain ⟨B0, d0, B1, d1, B2, d2, rfl, b0, b1, b2⟩ := hx
  obtain ⟨S0, g0, S1, g1, S2, g2, rfl, s0, s1, s2, hcap⟩ := hs
  have HS := sA (And.intro s0 (And.intro s1 (And.intro s2 hcap))); have HBK := sA a2; have HVS := sA b0
  clear a0 a1 a2 b0 b1 b2 s0 s1 s2 hcap
  have HN := sA hn; clear hn
  obtain ⟨HB0, HKA0, HKI0, HKS0, HKV0, HZ0⟩ := opens4 w (.cells #[.int .i64 c.regs, .int .i64 c.slots, .slice A0 c.b0.length c0, .slice A1 c.b1.length c1, .slice A2 c.b2.length c2] 41) (.cells #[.slice B0 x.vs.length d0, .slice B1 x.qs.length d1, .slice B2 x.rs.length d2] 47) (.cells #[.int .i64 s.pos, .int .i64 s.rule, .int .i64 s.node, .int .i64 s.time, .int .i64 s.dist, .int .i64 s.load, .slice S0 s.s0.length g0, .slice S1 s.s1.length g1, .slice S2 s.s2.length g2] 49) (.cells #[.int .i64 0, .int .i64 0, .int .i64 0] 37)
  go_enter Tryz.func8, Tryz.ntmps8
  go_wp2_with fail
  go_at_call 26
  refine (spec_ValidState _ _ _ _ c (HX.out.1.below HB0.out) x (HX.out.2.1.below HB0.out) v s (HX.out.2.2.1.below HB0.out) HN.out).mono ?_
  rintro e w1 ⟨rfl, hb⟩
  have HB1 := sA (bC HB0.out hb); have HKA1 := sA (bB HKA0.out hb); have HKI1 := sA (bB HKI0.out hb); have HKS1 := sA (bB HKS0.out hb); have HKV1 := sA (bB HKV0.out hb); clear hb
  cases hq : stateOk c x v s with
  | false =>
    have HL := sA (show finV c x v s = (0, 0, 0) by unfold finV; rw [if_neg (by rw [hq]; simp)]); clear hq
    obtain ⟨ka1, ka2⟩ := lay0 HKA1.out
    obtain ⟨ki1, ki2⟩ := lay0 HKI1.out
    obtain ⟨ks1, ks2⟩ := lay0 HKS1.out
    obtain ⟨kv1, kv2⟩ := lay0 HKV1.out
    go_wp2
    refine bodyPost_ret (v := .agg #[.int .i64 0, .int .i64 0, .int .i64 0]) (by simp [results, Tryz.results8, go_sem, kv1, kv2]) rfl ⟨by rw [HL.out]; rfl, ?_⟩
    with_reducible repeat (first | exact HB1.out | refine bel_set ?_ (by omega) _)
  | true =>
  have hok := hq; unfold stateOk at hok; rw [Bool.and_eq_true] at hok
  obtain ⟨kv, rfl, hkv, hcv, hxv⟩ := askOk_of hok.1
  by_cases hp : s.pos = -1
  · have p1 : (s.pos == -1) = true := beq_iff_eq.2 hp; have p2 : decide (s.pos = -1) = true := decide_eq_true hp
    have HL := sA (show finV c x kv s = (0, 0, 0) by unfold finV; rw [if_neg (by simp [hp])]); clear hq hok hp
    obtain ⟨ka1, ka2⟩ := lay0 HKA1.out
    obtain ⟨ki1, ki2⟩ := lay0 HKI1.out
    obtain ⟨ks1, ks2⟩ := lay0 HKS1.out
    obtain ⟨kv1, kv2⟩ := lay0 HKV1.out
    go_wp2
    refine bodyPost_ret (v := .agg #[.int .i64 0, .int .i64 0, .int .i64 0]) (by simp [results, Tryz.results8, go_sem, kv1, kv2]) rfl ⟨by rw [HL.out]; rfl, ?_⟩
    with_reducible repeat (first | exact HB1.out | refine bel_set ?_ (by omega) _)
  have p1 : (s.pos == -1) = false := beq_eq_false_iff_ne.2 hp; have p2 : decide (s.pos = -1) = false := decide_eq_false hp
  have HV := sA (show finV c x kv s = finS c x kv s by unfold finV; rw [if_pos ⟨hq, hp⟩]; rfl)
  by_cases hr : 0 ≤ s.rule
  · have p3 : decide (0 ≤ s.rule) = true := decide_eq_true hr
    have HL := sA (show finV c x kv s = (2, s.pos, s.rule) by rw [HV.out]; unfold finS; rw [if_pos hr]); clear hq hok hp hr
    obtain ⟨ka1, ka2⟩ := lay0 HKA1.out
    obtain ⟨ki1, ki2⟩ := lay0 HKI1.out
    obtain ⟨ks1, ks2⟩ := lay0 HKS1.out
    obtain ⟨kv1, kv2⟩ := lay0 HKV1.out
    go_wp2
    refine bodyPost_ret (v := .agg #[.int .i64 2, .int .i64 s.pos, .int .i64 s.rule]) (by simp [results, Tryz.results8, go_sem, kv1, kv2]) rfl ⟨by rw [HL.out]; rfl, ?_⟩
    with_reducible repeat (first | exact HB1.out | refine bel_set ?_ (by omega) _)
  have p3 : decide (0 ≤ s.rule) = false := decide_eq_false hr
  have hrun := Run.of hkv hcv hxv hok.2 hr hp
  have HR := sA hrun; have HV2 := sA (show finS c x kv s = (if someOne s.s0 then (2, s.pos + 1, 0) else if 0 ≤ (runB (envOf x kv (-1)) c.b2 (finM x kv s)).rule then (2, s.pos + 1, (runB (envOf x kv (-1)) c.b2 (finM x kv s)).rule) else (1, 0, 0)) by unfold finS; rw [if_neg hr])
  have q0 : IntKind.i64.wrap (s.pos + 1) = s.pos + 1 := IntWalk.i64_in _ (by have h0 := hrun.p0; have h1 := hrun.p1; omega)
  have hl0 : s.s0.length ≤ 1000 := by have := hrun.z0; have := (Inst.few_of hxv).2.1; omega
  have hkvi : (kv : Int) < (x.vs.length : Int) := by omega
  clear hq hok hp hr hrun
  obtain ⟨ka1, ka2⟩ := lay0 HKA1.out
  obtain ⟨ki1, ki2⟩ := lay0 HKI1.out
  obtain ⟨ks1, ks2⟩ := lay0 HKS1.out
  obtain ⟨kv1, kv2⟩ := lay0 HKV1.out
  go_wp2_with fail
  clear ka1 ka2 ki1 ki2 ks1 ks2 kv1 kv2
  go_loopg [9] (s.s0.length + 1) (fun q v9 wr => ∃ k, q = s.s0.length + 1 - k ∧ k ≤ s.s0.length ∧ v9 = .int .i64 k ∧ Aside0 (∀ j, j < k → s.s0.getD j 0 ≠ 1) ∧ Aside0 (wr = w1))
  case atStart => exact ⟨0, by omega, by omega, rfl, ⟨fun j hj => absurd hj (Nat.not_lt_zero _)⟩, ⟨rfl⟩⟩
  case round =>
    obtain ⟨k, rfl, hk, rfl, HP, HW⟩ := hrel
    obtain rfl := HW.out; clear HW
    by_cases hlt : k < s.s0.length
    · obtain ⟨ad, e0, z0⟩ := int_at (Kd.C_below HS.out.1 HB1.out) hlt
      cases e0
      have hgd : atI s.s0 k = s.s0.getD k 0 := by unfold atI; rw [Int.toNat_natCast]
      rw [hgd] at z0; clear hgd
      generalize hy : s.s0.getD k 0 = y at z0
      have HY := sA hy; clear hy
      by_cases h1 : y = 1
      · have p4 : (y == 1) = true := beq_iff_eq.2 h1; have p5 : decide (y = 1) = true := decide_eq_true h1
        have HL := sA (show finV c x kv s = (2, s.pos + 1, 0) by rw [HV.out, HV2.out, if_pos (show someOne s.s0 = true by unfold someOne; rw [allI_false hlt (by rw [HY.out, h1]; rfl)]; rfl)]); clear h1
        obtain ⟨ka1, ka2⟩ := lay0 HKA1.out
        obtain ⟨ki1, ki2⟩ := lay0 HKI1.out
        obtain ⟨ks1, ks2⟩ := lay0 HKS1.out
        obtain ⟨kv1, kv2⟩ := lay0 HKV1.out
        go_wp2
        refine bodyPost_ret (v := .agg #[.int .i64 2, .int .i64 (s.pos + 1), .int .i64 0]) (by simp [results, Tryz.results8, go_sem, kv1, kv2]) rfl ⟨by rw [HL.out]; rfl, ?_⟩
        with_reducible repeat (first | exact HB1.out | refine bel_set ?_ (by omega) _)
      · have p4 : (y == 1) = false := beq_eq_false_iff_ne.2 h1; have p5 : decide (y = 1) = false := decide_eq_false h1
        have HP1 := sA (show ∀ j, j < k + 1 → s.s0.getD j 0 ≠ 1 from fun j hj => by
          rcases Nat.lt_or_ge j k with h | h
          · exact HP.out j h
          · rw [show j = k by omega, HY.out]; exact h1); clear h1
        have q1 : IntKind.i64.wrap ((k : Int) + 1) = ((k + 1 : Nat) : Int) := by rw [IntWalk.i64_in _ (by omega)]; omega
        obtain ⟨ka1, ka2⟩ := lay0 HKA1.out
        obtain ⟨ki1, ki2⟩ := lay0 HKI1.out
        obtain ⟨ks1, ks2⟩ := lay0 HKS1.out
        obtain ⟨kv1, kv2⟩ := lay0 HKV1.out
        go_wp2
        go_roundg (s.s0.length + 1 - (k + 1))
        case measure => omega
        case rel => exact ⟨k + 1, rfl, hlt, by go_num, HP1, ⟨rfl⟩⟩
    have HV3 := sA (show finV c x kv s = (if 0 ≤ (runB (envOf x kv (-1)) c.b2 (finM x kv s)).rule then (2, s.pos + 1, (runB (envOf x kv (-1)) c.b2 (finM x kv s)).rule) else (1, 0, 0)) by rw [HV.out, HV2.out, if_neg (show ¬someOne s.s0 = true by unfold someOne; rw [allI_iff.2 fun j hj => by have := HP.out j (by omega); simp only [Bool.not_eq_true', beq_eq_false_iff_ne]; exact this]; decide)])
    have hlt' : decide ((k : Int) < (s.s0.length : Int)) = false := decide_eq_false (by omega)
    clear hk HP
    obtain ⟨adv, ev, tv0, tv1⟩ := Kd.flat_cells (d := kVeh) rfl HVS.out zV kv hkv
    cases ev
    have ZS := sA (tv1 0 _ rfl); clear tv0 tv1
    generalize hsk : (x.vs.getD kv zV).skills = sk at ZS
    have HSK := sA hsk; clear hsk
    obtain ⟨ka1, ka2⟩ := lay0 HKA1.out
    obtain ⟨ki1, ki2⟩ := lay0 HKI1.out
    obtain ⟨ks1, ks2⟩ := lay0 HKS1.out
    obtain ⟨kv1, kv2⟩ := lay0 HKV1.out
    have cZS := pC HB1.out ZS.out
    go_wp2_with fail
    clear ka1 ka2 ki1 ki2 ks1 ks2 kv1 kv2 cZS
    refine Grow.wp_region_deps 21 ⟨[(6, 54), (7, 55), (19, 67), (20, 10)], (fun i v lo hi W => MemG 6 7 19 wr.heap.size (nextA x kv s kv) (finM x kv s).regs (.slice S2 s.s2.length g2) 0 sk (-1) x.qs.length i v lo hi W), (fun i v lo hi W W' hb h => MemG.stays hb h)⟩ (by kernel_rfl) (by first | exact List.pairwise_singleton _ _ | simp) (by kernel_rfl) (by rfl) ?_
    dsimp only [List.take, List.drop]
    repeat (refine Grow.lexD_do _ (by rfl) (by rfl) (by intro W hj; obtain ⟨ka1, ka2⟩ := lay hj.out HKA1.out; obtain ⟨ki1, ki2⟩ := lay hj.out HKI1.out; obtain ⟨ks1, ks2⟩ := lay hj.out HKS1.out; obtain ⟨kv1, kv2⟩ := lay hj.out HKV1.out; have cZS := pC (bC HB1.out hj.out) ZS.out; go_simp; first | exact Grow.UponB.val) ?_; refine Grow.lexD_norm (fun K hK => ?_); go_simp; refine hK _ ?_; clear hK K)
    refine Grow.lexD_make (by rfl) (by rfl) (by intro u lo hi W hj hd; obtain ⟨ka1, ka2⟩ := lay hj.out HKA1.out; obtain ⟨ki1, ki2⟩ := lay hj.out HKI1.out; obtain ⟨ks1, ks2⟩ := lay hj.out HKS1.out; obtain ⟨kv1, kv2⟩ := lay hj.out HKV1.out; have cZS := pC (bC HB1.out hj.out) ZS.out; dsimp only [Grow.fillM, List.foldl]; go_simp; have cc := spec_next W _ _ x (HX.out.2.1.below (bC HB1.out hj.out)) kv s (HX.out.2.2.1.below (bC HB1.out hj.out)) kv hxv hkv HR.out.n0 HR.out.n1 (by omega) (by unfold Inst.nodes; omega) (by have := HR.out.p0; omega) HR.out.p1; refine Grow.UponB.made ?_; with_reducible refine Calls.mono cc ?_; rintro e w' ⟨v, rfl, hr, hb⟩; exact ⟨_, rfl, MemG.a (Kd.R_lower hr (by have := hj.out.size; exact this)), hb⟩) ?_
    refine Grow.lexD_norm (fun K hK => ?_); go_simp; refine hK _ ?_; clear hK K
    refine Grow.lexD_make (by rfl) (by rfl) (by intro u lo hi W hj hd; obtain ⟨ka1, ka2⟩ := lay hj.out HKA1.out; obtain ⟨ki1, ki2⟩ := lay hj.out HKI1.out; obtain ⟨ks1, ks2⟩ := lay hj.out HKS1.out; obtain ⟨kv1, kv2⟩ := lay hj.out HKV1.out; have cZS := pC (bC HB1.out hj.out) ZS.out; have h6 : kInt.R 2 W wr.heap.size (fun _ => True) (u 6) (nextA x kv s kv) := hd 6 rfl (by kernel_rfl); obtain ⟨A, cA, hu, _, hC⟩ := Kd.R_reads h6; clear h6; dsimp only [Grow.fillM, List.foldl]; go_simp; have cc := spec_over W S1 A g1 cA s.s1 (nextA x kv s kv) (Kd.C_below HS.out.2.1 (bC HB1.out hj.out)) hC HS.out.2.2.2 (by have := HR.out.z1; have := (Code.facts hcv).1; omega) (by have := HR.out.z1; have := (Code.facts hcv).2.1; omega) (by rw [nextA_len]; omega); refine Grow.UponB.made ?_; with_reducible refine Calls.mono cc ?_; rintro e w' ⟨v, rfl, hr, hb⟩; exact ⟨_, rfl, MemG.b (ia := 6) (ib := 7) (by decide) (Kd.R_lower hr (by have := hj.out.size; exact this)), hb⟩) ?_
    refine Grow.lexD_norm (fun K hK => ?_); go_simp; refine hK _ ?_; clear hK K
    repeat (refine Grow.lexD_do _ (by rfl) (by rfl) (by intro W hj; obtain ⟨ka1, ka2⟩ := lay hj.out HKA1.out; obtain ⟨ki1, ki2⟩ := lay hj.out HKI1.out; obtain ⟨ks1, ks2⟩ := lay hj.out HKS1.out; obtain ⟨kv1, kv2⟩ := lay hj.out HKV1.out; have cZS := pC (bC HB1.out hj.out) ZS.out; go_simp; first | exact Grow.UponB.val) ?_; refine Grow.lexD_norm (fun K hK => ?_); go_simp; refine hK _ ?_; clear hK K)
    refine Grow.lexD_make (by rfl) (by rfl) (by intro u lo hi W hj hd; obtain ⟨ka1, ka2⟩ := lay hj.out HKA1.out; obtain ⟨ki1, ki2⟩ := lay hj.out HKI1.out; obtain ⟨ks1, ks2⟩ := lay hj.out HKS1.out; obtain ⟨kv1, kv2⟩ := lay hj.out HKV1.out; have cZS := pC (bC HB1.out hj.out) ZS.out; have h7 : kInt.R 2 W wr.heap.size (fun _ => True) (u 7) (finM x kv s).regs := hd 7 rfl (by kernel_rfl); obtain ⟨A, cA, hu, _, _⟩ := Kd.R_reads h7; rw [hu] at h7; dsimp only [Grow.fillM, List.foldl]; go_simp; refine Grow.UponB.valR ?_; exact (MemG.c (ia := 6) (ib := 7) (ic := 19) (by decide) (by decide) h7)) ?_
    refine Grow.lexD_norm (fun K hK => ?_); go_simp; refine hK _ ?_; clear hK K
    refine Grow.lexD_make (by rfl) (by rfl) (by intro u lo hi W hj hd; obtain ⟨ka1, ka2⟩ := lay hj.out HKA1.out; obtain ⟨ki1, ki2⟩ := lay hj.out HKI1.out; obtain ⟨ks1, ks2⟩ := lay hj.out HKS1.out; obtain ⟨kv1, kv2⟩ := lay hj.out HKV1.out; have cZS := pC (bC HB1.out hj.out) ZS.out; dsimp only [Grow.fillM, List.foldl]; go_simp; refine Grow.UponB.boxR ?_; exact (MemG.d (ia := 6) (ib := 7) (ic := 19) (i := 20) (by decide) (by decide) (by decide) (al_new W _))) ?_
    refine Grow.lexD_norm (fun K hK => ?_); go_simp; refine hK _ ?_; clear hK K
    refine Grow.lexD_nil (fun u lo hi w2 hj hG hord => ?_)
    have h19 : ∃ v0, u 19 = .agg #[v0, .slice S2 s.s2.length g2, .int .i64 0, .int .i64 sk, .int .i64 (-1), .int .i64 x.qs.length, .int .i64 (-1)] ∧ kInt.R 2 w2 wr.heap.size (fun _ => True) v0 (finM x kv s).regs := (hG 19 rfl).1
    obtain ⟨v0, hu19, hR19⟩ := h19
    have h20 : u 20 = .pointer (some ⟨lo 20, 0, none⟩) ∧ w2.heap[lo 20]? = some (.cells #[.slice none 0 0, .slice none 0 0, .int .i64 0, .int .i64 0, .int .i64 0, .int .i64 0, .int .i64 0] 73 (0, 0)) := (hG 20 rfl).1
    obtain ⟨hu20, hz20⟩ := h20
    have hlo := (hG 20 rfl).2.1
    obtain ⟨AR, cR, rfl, hcR, hCR⟩ := Kd.R_reads hR19
    clear hG hord
    dsimp only [List.foldl]
    rw [hu19, hu20]
    generalize lo 20 = b at *
    have HBG := sA hlo
    clear hu19 hu20
    have hb := hj.out; clear hj
    have HB2 := sA (bC HB1.out hb); have HKA2 := sA (bB HKA1.out hb); have HKI2 := sA (bB HKI1.out hb); have HKS2 := sA (bB HKS1.out hb); have HKV2 := sA (bB HKV1.out hb); clear hb
    have hb3 := blk_lt HKV1.out
    have nb0 : b ≠ w.heap.size := by omega
    have nc0 : w.heap.size ≠ b := by omega
    have nb1 : b ≠ w.heap.size + 1 := by omega
    have nc1 : w.heap.size + 1 ≠ b := by omega
    have nb2 : b ≠ w.heap.size + 1 + 1 := by omega
    have nc2 : w.heap.size + 1 + 1 ≠ b := by omega
    have nb3 : b ≠ w.heap.size + 1 + 1 + 1 := by omega
    have nc3 : w.heap.size + 1 + 1 + 1 ≠ b := by omega
    have HBW := sA (show Below w.heap.size w (((((((w2.setCell ⟨b, 0, none⟩ (.slice AR (finM x kv s).regs.length cR)).setCell ⟨b, 1, none⟩ (.slice S2 s.s2.length g2)).setCell ⟨b, 2, none⟩ (.int .i64 0)).setCell ⟨b, 3, none⟩ (.int .i64 sk)).setCell ⟨b, 4, none⟩ (.int .i64 (-1))).setCell ⟨b, 5, none⟩ (.int .i64 x.qs.length)).setCell ⟨b, 6, none⟩ (.int .i64 (-1))) from setAll_below (by omega) [.slice AR (finM x kv s).regs.length cR, .slice S2 s.s2.length g2, .int .i64 0, .int .i64 sk, .int .i64 (-1), .int .i64 x.qs.length, .int .i64 (-1)] w2 0 HB2.out)
    have HKAW := sA (show (((((((w2.setCell ⟨b, 0, none⟩ (.slice AR (finM x kv s).regs.length cR)).setCell ⟨b, 1, none⟩ (.slice S2 s.s2.length g2)).setCell ⟨b, 2, none⟩ (.int .i64 0)).setCell ⟨b, 3, none⟩ (.int .i64 sk)).setCell ⟨b, 4, none⟩ (.int .i64 (-1))).setCell ⟨b, 5, none⟩ (.int .i64 x.qs.length)).setCell ⟨b, 6, none⟩ (.int .i64 (-1))).heap[w.heap.size]? = _ from (setAll_far nc0 [.slice AR (finM x kv s).regs.length cR, .slice S2 s.s2.length g2, .int .i64 0, .int .i64 sk, .int .i64 (-1), .int .i64 x.qs.length, .int .i64 (-1)] w2 0).trans HKA2.out)
    have HKIW := sA (show (((((((w2.setCell ⟨b, 0, none⟩ (.slice AR (finM x kv s).regs.length cR)).setCell ⟨b, 1, none⟩ (.slice S2 s.s2.length g2)).setCell ⟨b, 2, none⟩ (.int .i64 0)).setCell ⟨b, 3, none⟩ (.int .i64 sk)).setCell ⟨b, 4, none⟩ (.int .i64 (-1))).setCell ⟨b, 5, none⟩ (.int .i64 x.qs.length)).setCell ⟨b, 6, none⟩ (.int .i64 (-1))).heap[w.heap.size + 1]? = _ from (setAll_far nc1 [.slice AR (finM x kv s).regs.length cR, .slice S2 s.s2.length g2, .int .i64 0, .int .i64 sk, .int .i64 (-1), .int .i64 x.qs.length, .int .i64 (-1)] w2 0).trans HKI2.out)
    have HKSW := sA (show (((((((w2.setCell ⟨b, 0, none⟩ (.slice AR (finM x kv s).regs.length cR)).setCell ⟨b, 1, none⟩ (.slice S2 s.s2.length g2)).setCell ⟨b, 2, none⟩ (.int .i64 0)).setCell ⟨b, 3, none⟩ (.int .i64 sk)).setCell ⟨b, 4, none⟩ (.int .i64 (-1))).setCell ⟨b, 5, none⟩ (.int .i64 x.qs.length)).setCell ⟨b, 6, none⟩ (.int .i64 (-1))).heap[w.heap.size + 1 + 1]? = _ from (setAll_far nc2 [.slice AR (finM x kv s).regs.length cR, .slice S2 s.s2.length g2, .int .i64 0, .int .i64 sk, .int .i64 (-1), .int .i64 x.qs.length, .int .i64 (-1)] w2 0).trans HKS2.out)
    have HKVW := sA (show (((((((w2.setCell ⟨b, 0, none⟩ (.slice AR (finM x kv s).regs.length cR)).setCell ⟨b, 1, none⟩ (.slice S2 s.s2.length g2)).setCell ⟨b, 2, none⟩ (.int .i64 0)).setCell ⟨b, 3, none⟩ (.int .i64 sk)).setCell ⟨b, 4, none⟩ (.int .i64 (-1))).setCell ⟨b, 5, none⟩ (.int .i64 x.qs.length)).setCell ⟨b, 6, none⟩ (.int .i64 (-1))).heap[w.heap.size + 1 + 1 + 1]? = _ from (setAll_far nc3 [.slice AR (finM x kv s).regs.length cR, .slice S2 s.s2.length g2, .int .i64 0, .int .i64 sk, .int .i64 (-1), .int .i64 x.qs.length, .int .i64 (-1)] w2 0).trans HKV2.out)
    have hzs := (blk_set (blk_set (blk_set (blk_set (blk_set (blk_set (blk_set hz20 0 (.slice AR (finM x kv s).regs.length cR)) 1 (.slice S2 s.s2.length g2)) 2 (.int .i64 0)) 3 (.int .i64 sk)) 4 (.int .i64 (-1))) 5 (.int .i64 x.qs.length)) 6 (.int .i64 (-1)))
    simp only [List.setIfInBounds_toArray, List.set_cons_zero, List.set_cons_succ] at hzs
    have HZW := sA hzs; clear hzs
    have HSZ := sA (show w2.heap.size ≤ (((((((w2.setCell ⟨b, 0, none⟩ (.slice AR (finM x kv s).regs.length cR)).setCell ⟨b, 1, none⟩ (.slice S2 s.s2.length g2)).setCell ⟨b, 2, none⟩ (.int .i64 0)).setCell ⟨b, 3, none⟩ (.int .i64 sk)).setCell ⟨b, 4, none⟩ (.int .i64 (-1))).setCell ⟨b, 5, none⟩ (.int .i64 x.qs.length)).setCell ⟨b, 6, none⟩ (.int .i64 (-1))).heap.size from Nat.le_of_eq (setAll_size [.slice AR (finM x kv s).regs.length cR, .slice S2 s.s2.length g2, .int .i64 0, .int .i64 sk, .int .i64 (-1), .int .i64 x.qs.length, .int .i64 (-1)] w2 0).symm)
    have HCW := sA (show kInt.C (((((((w2.setCell ⟨b, 0, none⟩ (.slice AR (finM x kv s).regs.length cR)).setCell ⟨b, 1, none⟩ (.slice S2 s.s2.length g2)).setCell ⟨b, 2, none⟩ (.int .i64 0)).setCell ⟨b, 3, none⟩ (.int .i64 sk)).setCell ⟨b, 4, none⟩ (.int .i64 (-1))).setCell ⟨b, 5, none⟩ (.int .i64 x.qs.length)).setCell ⟨b, 6, none⟩ (.int .i64 (-1))) AR (finM x kv s).regs.length (finM x kv s).regs from int_move hCR fun ad he hp => setAll_far (row_ne hR19 hz20 (by decide) ad he hp) [.slice AR (finM x kv s).regs.length cR, .slice S2 s.s2.length g2, .int .i64 0, .int .i64 sk, .int .i64 (-1), .int .i64 x.qs.length, .int .i64 (-1)] w2 0)
    have HNR := sA (row_ne hR19 hz20 (by decide)); have HGE := sA (row_ge hR19); have HCR := sA hcR; have HLT := sA (blk_lt hz20)
    obtain ⟨z1, z2⟩ := lay0 hz20
    clear hR19 hz20 hcR hCR hb3 hlo
    obtain ⟨ka1, ka2⟩ := lay0 HKA2.out
    obtain ⟨ki1, ki2⟩ := lay0 HKI2.out
    obtain ⟨ks1, ks2⟩ := lay0 HKS2.out
    obtain ⟨kv1, kv2⟩ := lay0 HKV2.out
    have cZS := pC HB2.out ZS.out
    go_wp2_with fail
    clear ka1 ka2 ki1 ki2 ks1 ks2 kv1 kv2 cZS
    clear z1 z2
    have hE : envOf x kv (-1) = ⟨0, sk, -1, x.qs.length⟩ := by unfold envOf; rw [HSK.out]; rfl
    obtain ⟨f13, f1000, f0, f100, _, _, fb2⟩ := Code.facts hcv
    have hcall := spec_exec A2 c2 c.b2 (envOf x kv (-1)) fb2 f1000 f0 f100 c.b2.length 0 (finM x kv s) (by omega) HR.out.fin (((((((w2.setCell ⟨b, 0, none⟩ (.slice AR (finM x kv s).regs.length cR)).setCell ⟨b, 1, none⟩ (.slice S2 s.s2.length g2)).setCell ⟨b, 2, none⟩ (.int .i64 0)).setCell ⟨b, 3, none⟩ (.int .i64 sk)).setCell ⟨b, 4, none⟩ (.int .i64 (-1))).setCell ⟨b, 5, none⟩ (.int .i64 x.qs.length)).setCell ⟨b, 6, none⟩ (.int .i64 (-1))) AR cR S2 g2 (fun k => k = b ∨ k = w.heap.size + 1 + 1 + 1) (Kd.C_below HBK.out HBW.out) HCW.out (Kd.C_below HS.out.2.2.1 HBW.out) (fun ad he hp hh => by rcases hh with hh | hh; exact HNR.out ad he hp hh; have := HGE.out ad he hp; have := blk_lt HKV1.out; omega) (fun ad he hp hh => by have := int_lt HS.out.2.2.1 he hp; have := HBG.out; have := blk_lt HKV1.out; rcases hh with hh | hh <;> omega) (fun k hk => by have h1 := HSZ.out; have h2 := HLT.out; have h3 := blk_lt HKV2.out; rcases hk with rfl | rfl <;> omega) HCR.out
    unfold runB at HV3
    rw [hE] at hcall HV3
    generalize exec ⟨0, sk, -1, x.qs.length⟩ c.b2 c.b2.length 0 (finM x kv s) = mF at hcall HV3
    simp only [memV] at hcall
    clear hE f13 f1000 f0 f100 fb2
    go_at_call 29
    refine hcall.mono ?_
    rintro e w3 ⟨⟨A4, c4, A5, c5, rfl, _, _, _, _, _⟩, hb⟩
    clear hcall
    have HB3 := sA (bC HBW.out hb); have HKA3 := sA (bB HKAW.out hb); have HKI3 := sA (bB HKIW.out hb); have HKS3 := sA (bB HKSW.out hb); have HKV3 := sA (bB HKVW.out hb); have HZ3 := sA (bB HZW.out hb); clear hb
    have hbge : w.heap.size ≤ b := by have := HGE; have h3 := blk_lt HKV1.out; have := HBG.out; omega
    by_cases hr : 0 ≤ mF.rule
    · have p6 : decide (0 ≤ mF.rule) = true := decide_eq_true hr
      have HL := sA (show finV c x kv s = (2, s.pos + 1, mF.rule) by rw [HV3.out]; rw [if_pos hr]); clear hr
      obtain ⟨z1, z2⟩ := lay0 HZ3.out
      obtain ⟨ka1, ka2⟩ := lay0 HKA3.out
      obtain ⟨ki1, ki2⟩ := lay0 HKI3.out
      obtain ⟨ks1, ks2⟩ := lay0 HKS3.out
      obtain ⟨kv1, kv2⟩ := lay0 HKV3.out
      go_wp2
      refine bodyPost_ret (v := .agg #[.int .i64 2, .int .i64 (s.pos + 1), .int .i64 mF.rule]) (by simp [results, Tryz.results8, go_sem, kv1, kv2, nb3, nc3, *]) rfl ⟨by rw [HL.out]; rfl, ?_⟩
      with_reducible repeat (first | exact HB3.out | refine bel_set ?_ (by omega) _)
    · have p6 : decide (0 ≤ mF.rule) = false := decide_eq_false hr
      have HL := sA (show finV c x kv s = (1, 0, 0) by rw [HV3.out]; rw [if_neg hr]); clear hr
      obtain ⟨z1, z2⟩ := lay0 HZ3.out
      obtain ⟨ka1, ka2⟩ := lay0 HKA3.out
      obtain ⟨ki1, ki2⟩ := lay0 HKI3.out
      obtain ⟨ks1, ks2⟩ := lay0 HKS3.out
      obtain ⟨kv1, kv2⟩ := lay0 HKV3.out
      go_wp2
      refine bodyPost_ret (v := .agg #[.int .i64 1, .int .i64 0, .int .i64 0]) (by simp [results, Tryz.results8, go_sem, kv1, kv2, nb3, nc3, *]) rfl ⟨by rw [HL.out]; rfl, ?_⟩
      with_reducible repeat (first | exact HB3.out | refine bel_set ?_ (by omega) _)
end
end Go.Proofs.YtlhpbpkefkabgaaGreat.L1
