/- impl.ValidInst answers Inst.valid. The places of an instance's nodes, as the reference and the program tell them. -/
import Derived.Test.YtlhpbpkefkabgaaGreatQS4
namespace Go.Proofs.YtlhpbpkefkabgaaGreat.L1
open Go.RowKit Go.Proofs.YtlhpbpkefkabgaaGreatW.PrintWords Go.Proofs.YtlhpbpkefkabgaaGreat.B
set_option linter.unusedVariables false
set_option linter.unusedSimpArgs false
attribute [local go_sem] mk_cell mk_frozen
section
variable (w : World)
set_option maxRecDepth 100000 in
set_option maxHeartbeats 2000000 in
theorem impl_validInst (v : Value) (x : Inst) (hr : ReadInst w v x) : Calls Tryz.prog 78 #[v] w fun e w' => e = .returned (.bool x.valid) ∧ Below w.heap.size w w' := by
  obtain ⟨A0, c0, A1, c1, A2, c2, rfl, r0, r1, r2⟩ := hr
  have m0 := r0.2.1; have m1 := r1.2.1; have m2 := r2.2.1
  have HR := sA (And.intro r0 (And.intro r1 r2)); clear r0 r1 r2
  rcases Nat.lt_or_ge 64 x.vs.length with f0 | f0
  · have g0 : decide ((64 : Int) < (x.vs.length : Int)) = true := by simp; omega
    go_enter Tryz.func78, Tryz.ntmps78
    go_wp2
    go_ret
    exact ⟨by rw [Inst.valid_few (by unfold Inst.few; simp; omega)]; rfl, bA (Below.refl _ _) _⟩
  have g0 : decide ((64 : Int) < (x.vs.length : Int)) = false := by simp; omega
  rcases Nat.lt_or_ge 1000 x.qs.length with f1 | f1
  · have g1 : decide ((1000 : Int) < (x.qs.length : Int)) = true := by simp; omega
    go_enter Tryz.func78, Tryz.ntmps78
    go_wp2
    go_ret
    exact ⟨by rw [Inst.valid_few (by unfold Inst.few; simp; omega)]; rfl, bA (Below.refl _ _) _⟩
  have g1 : decide ((1000 : Int) < (x.qs.length : Int)) = false := by simp; omega
  rcases Nat.lt_or_ge 4000 x.rs.length with f2 | f2
  · have g2 : decide ((4000 : Int) < (x.rs.length : Int)) = true := by simp; omega
    go_enter Tryz.func78, Tryz.ntmps78
    go_wp2
    go_ret
    exact ⟨by rw [Inst.valid_few (by unfold Inst.few; simp; omega)]; rfl, bA (Below.refl _ _) _⟩
  have g2 : decide ((4000 : Int) < (x.rs.length : Int)) = false := by simp; omega
  have HF := sA (show x.few = true by unfold Inst.few; simp; omega)
  go_enter Tryz.func78, Tryz.ntmps78
  go_wp2_with fail
  have HB := sA (bA (Below.refl w.heap.size w) (.cells #[.slice A0 x.vs.length c0, .slice A1 x.qs.length c1, .slice A2 x.rs.length c2] 47))
  have HA := sA (al_new w (.cells #[.slice A0 x.vs.length c0, .slice A1 x.qs.length c1, .slice A2 x.rs.length c2] 47))
  go_loopg [28] (x.vs.length + 1) (fun q v wr => ∃ k, q = x.vs.length + 1 - k ∧ k ≤ x.vs.length ∧ v = .int .i64 k ∧ Aside0 (allI k (fun k => (x.vs.getD k zV).good) = true) ∧ Aside0 (wr.heap[w.heap.size]? = some (.cells #[.slice A0 x.vs.length c0, .slice A1 x.qs.length c1, .slice A2 x.rs.length c2] 47 (0, 0))) ∧ Aside0 (Below w.heap.size w wr))
  case atStart => exact ⟨0, by omega, by omega, rfl, ⟨rfl⟩, HA, HB⟩
  case round =>
    clear HA HB
    obtain ⟨k, rfl, hk, rfl, HG0, HA, HB⟩ := hrel
    obtain ⟨a1, a2⟩ := lay0 HA.out
    by_cases hlt : k < x.vs.length
    · obtain ⟨ad, e0, h0, h1⟩ := Kd.flat_cells (d := kVeh) rfl (Kd.C_below HR.out.1 HB.out) zV k hlt
      cases e0
      have hs := allI_succ k (fun k => (x.vs.getD k zV).good)
      have hv := @Inst.valid_vs x k hlt
      generalize x.vs.getD k zV = y at h0 h1 hs hv
      have HS := sA hs; have HV := sA hv; clear hs hv
      have d0 := h0 _ rfl; have d1 := h1 0 _ rfl; have d2 := h1 1 _ rfl; have d3 := h1 2 _ rfl; have d4 := h1 3 _ rfl; have d5 := h1 4 _ rfl; have d6 := h1 5 _ rfl
      clear h0 h1
      cases hgood : y.good with
      | true =>
        have HY := sA hgood; clear hgood
        go_wp2_with (first | (go_at_call 115; refine (impl_goodVeh _ y).mono ?_; rw [HY.out]; rintro e w2 ⟨rfl, hb⟩; have HB1 := sA (bC (bel_box HB.out _) hb); have HA1 := sA (bB (blk_box HA.out _) hb); clear hb))
        go_roundg (x.vs.length + 1 - (k + 1))
        case measure => omega
        case rel => exact ⟨k + 1, rfl, hlt, by go_num, ⟨by rw [HS.out, HG0.out, HY.out]; rfl⟩, HA1, HB1⟩
      | false =>
        have HY := sA hgood; clear hgood
        go_wp2_with (first | (go_at_call 115; refine (impl_goodVeh _ y).mono ?_; rw [HY.out]; rintro e w2 ⟨rfl, hb⟩; have HB1 := sA (bC (bel_box HB.out _) hb); have HA1 := sA (bB (blk_box HA.out _) hb); clear hb))
        go_ret
        exact ⟨by rw [HV.out HY.out]; rfl, HB1.out⟩
    · have hkk : k = x.vs.length := by omega
      have HK0 := sA (hkk ▸ HG0.out : allI x.vs.length (fun k => (x.vs.getD k zV).good) = true); clear hkk HG0
      go_wp2_with fail
      clear a1 a2
      go_loopg [39] (x.qs.length + 1) (fun q v wr => ∃ k, q = x.qs.length + 1 - k ∧ k ≤ x.qs.length ∧ v = .int .i64 k ∧ Aside0 (allI k (fun k => (x.qs.getD k zQ).good) = true) ∧ Aside0 (wr.heap[w.heap.size]? = some (.cells #[.slice A0 x.vs.length c0, .slice A1 x.qs.length c1, .slice A2 x.rs.length c2] 47 (0, 0))) ∧ Aside0 (Below w.heap.size w wr))
      case atStart => exact ⟨0, by omega, by omega, rfl, ⟨rfl⟩, HA, HB⟩
      case round =>
        clear HA HB
        obtain ⟨k, rfl, hk, rfl, HG1, HA, HB⟩ := hrel
        obtain ⟨a1, a2⟩ := lay0 HA.out
        by_cases hlt : k < x.qs.length
        · obtain ⟨ad, e0, h0, h1⟩ := Kd.flat_cells (d := kReq) rfl (Kd.C_below HR.out.2.1 HB.out) zQ k hlt
          cases e0
          have hs := allI_succ k (fun k => (x.qs.getD k zQ).good)
          have hv := @Inst.valid_qs x k hlt
          generalize x.qs.getD k zQ = y at h0 h1 hs hv
          have HS := sA hs; have HV := sA hv; clear hs hv
          have d0 := h0 _ rfl; have d1 := h1 0 _ rfl; have d2 := h1 1 _ rfl; have d3 := h1 2 _ rfl; have d4 := h1 3 _ rfl; have d5 := h1 4 _ rfl; have d6 := h1 5 _ rfl; have d7 := h1 6 _ rfl; have d8 := h1 7 _ rfl; have d9 := h1 8 _ rfl; have d10 := h1 9 _ rfl; have d11 := h1 10 _ rfl
          clear h0 h1
          cases hgood : y.good with
          | true =>
            have HY := sA hgood; clear hgood
            go_wp2_with (first | (go_at_call 116; refine (impl_goodReq _ y).mono ?_; rw [HY.out]; rintro e w2 ⟨rfl, hb⟩; have HB1 := sA (bC (bel_box HB.out _) hb); have HA1 := sA (bB (blk_box HA.out _) hb); clear hb))
            go_roundg (x.qs.length + 1 - (k + 1))
            case measure => omega
            case rel => exact ⟨k + 1, rfl, hlt, by go_num, ⟨by rw [HS.out, HG1.out, HY.out]; rfl⟩, HA1, HB1⟩
          | false =>
            have HY := sA hgood; clear hgood
            go_wp2_with (first | (go_at_call 116; refine (impl_goodReq _ y).mono ?_; rw [HY.out]; rintro e w2 ⟨rfl, hb⟩; have HB1 := sA (bC (bel_box HB.out _) hb); have HA1 := sA (bB (blk_box HA.out _) hb); clear hb))
            go_ret
            exact ⟨by rw [HV.out HY.out]; rfl, HB1.out⟩
        · have hkk : k = x.qs.length := by omega
          have HK1 := sA (hkk ▸ HG1.out : allI x.qs.length (fun k => (x.qs.getD k zQ).good) = true); clear hkk HG1
          go_wp2_with fail
          clear a1 a2
          go_loopg [50] (x.rs.length + 1) (fun q v wr => ∃ k, q = x.rs.length + 1 - k ∧ k ≤ x.rs.length ∧ v = .int .i64 k ∧ Aside0 (allI k (roadAt x.nodes x.rs) = true) ∧ Aside0 (wr.heap[w.heap.size]? = some (.cells #[.slice A0 x.vs.length c0, .slice A1 x.qs.length c1, .slice A2 x.rs.length c2] 47 (0, 0))) ∧ Aside0 (Below w.heap.size w wr))
          case atStart => exact ⟨0, by omega, by omega, rfl, ⟨rfl⟩, HA, HB⟩
          case round =>
            clear HA HB
            obtain ⟨k, rfl, hk, rfl, HG2, HA, HB⟩ := hrel
            obtain ⟨a1, a2⟩ := lay0 HA.out
            by_cases hlt : k < x.rs.length
            · obtain ⟨ad, e0, h0, h1⟩ := Kd.flat_cells (d := kRoad) rfl (Kd.C_below HR.out.2.2 HB.out) zR k hlt
              cases e0
              have hs := allI_succ k (roadAt x.nodes x.rs)
              have hv := @Inst.valid_rs x k hlt
              have HN := sA (nodes_bd x f0 f1)
              rcases Nat.eq_zero_or_pos k with hk0 | hk0
              · -- the first road
                have hat : roadAt x.nodes x.rs k = (x.rs.getD k zR).good x.nodes := by simp [roadAt, hk0]
                have hd : decide ((0 : Int) < (k : Int)) = false := by simp; omega
                have hd' : decide (0 < k) = false := by simp; omega
                have HK0 := sA hk0; clear hk0
                generalize x.rs.getD k zR = y at h0 h1 hat
                have HT := sA hat; have HS := sA hs; have HV := sA hv; clear hat hs hv
                have d0 := h0 _ rfl; have d1 := h1 0 _ rfl; have d2 := h1 1 _ rfl
                have hlen0 : x.vs.length ≤ 1048576 := by omega
                have hlen1 : x.qs.length ≤ 1048576 := by omega
                cases hgood : y.good x.nodes with
                | true =>
                  have HY := sA hgood; clear hgood
                  go_wp2_with fail
                  have b0 := blk_cell (blk_box HA.out (.cells #[.int .i64 y.a, .int .i64 y.b, .int .i64 y.t] 114)) 0; have b1 := blk_cell (blk_box HA.out (.cells #[.int .i64 y.a, .int .i64 y.b, .int .i64 y.t] 114)) 1; have b2 := blk_cell (blk_box HA.out (.cells #[.int .i64 y.a, .int .i64 y.b, .int .i64 y.t] 114)) 2
                  have r0 := blk_cell (al_new wr (.cells #[.int .i64 y.a, .int .i64 y.b, .int .i64 y.t] 114)) 0; have r1 := blk_cell (al_new wr (.cells #[.int .i64 y.a, .int .i64 y.b, .int .i64 y.t] 114)) 1; have r2 := blk_cell (al_new wr (.cells #[.int .i64 y.a, .int .i64 y.b, .int .i64 y.t] 114)) 2
                  clear a1 a2 d0 d1 d2 h0 h1
                  simp only [List.getElem?_toArray, List.getElem?_cons_zero, List.getElem?_cons_succ] at b0 b1 b2 r0 r1 r2
                  refine Grow.wp_region_growB (by kernel_rfl) (by kernel_rfl) ?_
                  repeat ((first | (refine Grow.lex_skip (by rfl) ?_) | (refine Grow.lex_do _ (by rfl) (by intro W hj; have t0 := pC hj.out b0; have t1 := pC hj.out b1; have t2 := pC hj.out b2; have t3 := pC hj.out r0; have t4 := pC hj.out r1; have t5 := pC hj.out r2; go_simp; first | exact Grow.Upon.val hj | exact Grow.Upon.callB hj (impl_nodes W A0 A1 (some ad) x.vs.length x.qs.length x.rs.length c0 c1 c2 hlen0 hlen1) | (have c := impl_goodRoad W y x.nodes HN.out.1 HN.out.2; rw [HY.out] at c; exact Grow.Upon.callB hj c)) ?_)); refine Grow.lex_norm (fun K hK => ?_); go_simp; refine hK _ ?_; clear hK K)
                  refine Grow.lex_nil (fun W hj => ?_)
                  have HB2 := sA (bC (bel_box HB.out (.cells #[.int .i64 y.a, .int .i64 y.b, .int .i64 y.t] 114)) hj.out); have HA2 := sA (bB (blk_box HA.out (.cells #[.int .i64 y.a, .int .i64 y.b, .int .i64 y.t] 114)) hj.out); clear hj b0 b1 b2 r0 r1 r2
                  go_wp2
                  go_roundg (x.rs.length + 1 - (k + 1))
                  case measure => omega
                  case rel => exact ⟨k + 1, rfl, hlt, by go_num, ⟨by rw [HS.out, HG2.out, HT.out, HY.out]; rfl⟩, HA2, HB2⟩
                | false =>
                  have HY := sA hgood; clear hgood
                  go_wp2_with fail
                  have b0 := blk_cell (blk_box HA.out (.cells #[.int .i64 y.a, .int .i64 y.b, .int .i64 y.t] 114)) 0; have b1 := blk_cell (blk_box HA.out (.cells #[.int .i64 y.a, .int .i64 y.b, .int .i64 y.t] 114)) 1; have b2 := blk_cell (blk_box HA.out (.cells #[.int .i64 y.a, .int .i64 y.b, .int .i64 y.t] 114)) 2
                  have r0 := blk_cell (al_new wr (.cells #[.int .i64 y.a, .int .i64 y.b, .int .i64 y.t] 114)) 0; have r1 := blk_cell (al_new wr (.cells #[.int .i64 y.a, .int .i64 y.b, .int .i64 y.t] 114)) 1; have r2 := blk_cell (al_new wr (.cells #[.int .i64 y.a, .int .i64 y.b, .int .i64 y.t] 114)) 2
                  clear a1 a2 d0 d1 d2 h0 h1
                  simp only [List.getElem?_toArray, List.getElem?_cons_zero, List.getElem?_cons_succ] at b0 b1 b2 r0 r1 r2
                  refine Grow.wp_region_growB (by kernel_rfl) (by kernel_rfl) ?_
                  repeat ((first | (refine Grow.lex_skip (by rfl) ?_) | (refine Grow.lex_do _ (by rfl) (by intro W hj; have t0 := pC hj.out b0; have t1 := pC hj.out b1; have t2 := pC hj.out b2; have t3 := pC hj.out r0; have t4 := pC hj.out r1; have t5 := pC hj.out r2; go_simp; first | exact Grow.Upon.val hj | exact Grow.Upon.callB hj (impl_nodes W A0 A1 (some ad) x.vs.length x.qs.length x.rs.length c0 c1 c2 hlen0 hlen1) | (have c := impl_goodRoad W y x.nodes HN.out.1 HN.out.2; rw [HY.out] at c; exact Grow.Upon.callB hj c)) ?_)); refine Grow.lex_norm (fun K hK => ?_); go_simp; refine hK _ ?_; clear hK K)
                  refine Grow.lex_nil (fun W hj => ?_)
                  have HB2 := sA (bC (bel_box HB.out (.cells #[.int .i64 y.a, .int .i64 y.b, .int .i64 y.t] 114)) hj.out); have HA2 := sA (bB (blk_box HA.out (.cells #[.int .i64 y.a, .int .i64 y.b, .int .i64 y.t] 114)) hj.out); clear hj b0 b1 b2 r0 r1 r2
                  go_wp2
                  go_ret
                  exact ⟨by rw [HV.out (by simp [HT.out, HY.out])]; rfl, HB2.out⟩
              · -- a later road
                have hat : roadAt x.nodes x.rs k = ((x.rs.getD k zR).good x.nodes && (x.rs.getD (k - 1) zR).lt (x.rs.getD k zR)) := by simp [roadAt, Nat.ne_of_gt hk0]
                have hd : decide ((0 : Int) < (k : Int)) = true := by simp; omega
                have hd' : decide (0 < k) = true := by simp; omega
                obtain ⟨ad', e0', g0, g1⟩ := Kd.flat_cells (d := kRoad) rfl (Kd.C_below HR.out.2.2 HB.out) zR (k - 1) (by omega)
                cases e0'
                generalize x.rs.getD (k - 1) zR = z at g0 g1 hat
                generalize x.rs.getD k zR = y at h0 h1 hat
                have HT := sA hat; have HS := sA hs; have HV := sA hv; clear hat hs hv
                have d0 := h0 _ rfl; have d1 := h1 0 _ rfl; have d2 := h1 1 _ rfl
                have e0 := g0 _ rfl; have e1 := g1 0 _ rfl; have e2 := g1 1 _ rfl
                have hlen0 : x.vs.length ≤ 1048576 := by omega
                have hlen1 : x.qs.length ≤ 1048576 := by omega
                have q0 : (k : Int) - 1 < (x.rs.length : Int) := by omega
                have q1 : (0 : Int) ≤ (k : Int) - 1 := by omega
                have q2 : (1 : Int) ≤ (k : Int) := by omega
                have q3 : IntKind.i64.wrap ((k : Int) - 1) = (k : Int) - 1 := IntWalk.i64_in _ (by omega)
                have q4 : ((k : Int) - 1).toNat = k - 1 := by omega
                have hcmp := Road.cmp_neg z y
                obtain ⟨c, hc⟩ : ∃ c, z.cmp y = c := ⟨_, rfl⟩
                rw [hc] at hcmp
                have HC := sA hc; have HM := sA hcmp; clear hc hcmp
                cases hgood : y.good x.nodes with
                | true =>
                  have HY := sA hgood; clear hgood
                  go_wp2_with fail
                  have b0 := blk_cell (blk_box HA.out (.cells #[.int .i64 y.a, .int .i64 y.b, .int .i64 y.t] 114)) 0; have b1 := blk_cell (blk_box HA.out (.cells #[.int .i64 y.a, .int .i64 y.b, .int .i64 y.t] 114)) 1; have b2 := blk_cell (blk_box HA.out (.cells #[.int .i64 y.a, .int .i64 y.b, .int .i64 y.t] 114)) 2
                  have r0 := blk_cell (al_new wr (.cells #[.int .i64 y.a, .int .i64 y.b, .int .i64 y.t] 114)) 0; have r1 := blk_cell (al_new wr (.cells #[.int .i64 y.a, .int .i64 y.b, .int .i64 y.t] 114)) 1; have r2 := blk_cell (al_new wr (.cells #[.int .i64 y.a, .int .i64 y.b, .int .i64 y.t] 114)) 2
                  have s0 := pC (bA (Below.refl wr.heap.size wr) (.cells #[.int .i64 y.a, .int .i64 y.b, .int .i64 y.t] 114)) e0; have s1 := pC (bA (Below.refl wr.heap.size wr) (.cells #[.int .i64 y.a, .int .i64 y.b, .int .i64 y.t] 114)) e1; have s2 := pC (bA (Below.refl wr.heap.size wr) (.cells #[.int .i64 y.a, .int .i64 y.b, .int .i64 y.t] 114)) e2
                  clear a1 a2 d0 d1 d2 h0 h1
                  simp only [List.getElem?_toArray, List.getElem?_cons_zero, List.getElem?_cons_succ] at b0 b1 b2 r0 r1 r2
                  refine Grow.wp_region_growB (by kernel_rfl) (by kernel_rfl) ?_
                  rcases Int.lt_or_le c 0 with hc0 | hc0
                  · have hz : z.lt y = true := HM.out.1 hc0
                    have hcd : decide (0 ≤ c) = false := by simp; omega
                    have HZ := sA hz; clear hz
                    repeat ((first | (refine Grow.lex_skip (by rfl) ?_) | (refine Grow.lex_do _ (by rfl) (by intro W hj; have t0 := pC hj.out b0; have t1 := pC hj.out b1; have t2 := pC hj.out b2; have t3 := pC hj.out r0; have t4 := pC hj.out r1; have t5 := pC hj.out r2; have t6 := pC hj.out s0; have t7 := pC hj.out s1; have t8 := pC hj.out s2; go_simp; first | exact Grow.Upon.val hj | exact Grow.Upon.callB hj (impl_nodes W A0 A1 (some ad) x.vs.length x.qs.length x.rs.length c0 c1 c2 hlen0 hlen1) | (have c := impl_goodRoad W y x.nodes HN.out.1 HN.out.2; rw [HY.out] at c; exact Grow.Upon.callB hj c) | (have c := impl_compare W z y; rw [HC.out] at c; exact Grow.Upon.callB hj c)) ?_)); refine Grow.lex_norm (fun K hK => ?_); go_simp; refine hK _ ?_; clear hK K)
                    refine Grow.lex_nil (fun W hj => ?_)
                    have HB2 := sA (bC (bel_box HB.out (.cells #[.int .i64 y.a, .int .i64 y.b, .int .i64 y.t] 114)) hj.out); have HA2 := sA (bB (blk_box HA.out (.cells #[.int .i64 y.a, .int .i64 y.b, .int .i64 y.t] 114)) hj.out); clear hj b0 b1 b2 r0 r1 r2 s0 s1 s2 q0 q1 q2 q3 q4
                    go_wp2
                    go_roundg (x.rs.length + 1 - (k + 1))
                    case measure => omega
                    case rel => exact ⟨k + 1, rfl, hlt, by go_num, ⟨by rw [HS.out, HG2.out, HT.out, HY.out, HZ.out]; rfl⟩, HA2, HB2⟩
                  · have hz : z.lt y = false := by cases hh : z.lt y with | false => rfl | true => exact absurd (HM.out.2 hh) (by omega)
                    have hcd : decide (0 ≤ c) = true := by simp; omega
                    have HZ := sA hz; clear hz
                    repeat ((first | (refine Grow.lex_skip (by rfl) ?_) | (refine Grow.lex_do _ (by rfl) (by intro W hj; have t0 := pC hj.out b0; have t1 := pC hj.out b1; have t2 := pC hj.out b2; have t3 := pC hj.out r0; have t4 := pC hj.out r1; have t5 := pC hj.out r2; have t6 := pC hj.out s0; have t7 := pC hj.out s1; have t8 := pC hj.out s2; go_simp; first | exact Grow.Upon.val hj | exact Grow.Upon.callB hj (impl_nodes W A0 A1 (some ad) x.vs.length x.qs.length x.rs.length c0 c1 c2 hlen0 hlen1) | (have c := impl_goodRoad W y x.nodes HN.out.1 HN.out.2; rw [HY.out] at c; exact Grow.Upon.callB hj c) | (have c := impl_compare W z y; rw [HC.out] at c; exact Grow.Upon.callB hj c)) ?_)); refine Grow.lex_norm (fun K hK => ?_); go_simp; refine hK _ ?_; clear hK K)
                    refine Grow.lex_nil (fun W hj => ?_)
                    have HB2 := sA (bC (bel_box HB.out (.cells #[.int .i64 y.a, .int .i64 y.b, .int .i64 y.t] 114)) hj.out); have HA2 := sA (bB (blk_box HA.out (.cells #[.int .i64 y.a, .int .i64 y.b, .int .i64 y.t] 114)) hj.out); clear hj b0 b1 b2 r0 r1 r2 s0 s1 s2 q0 q1 q2 q3 q4
                    go_wp2
                    go_ret
                    exact ⟨by rw [HV.out (by simp [HT.out, HY.out, HZ.out])]; rfl, HB2.out⟩
                | false =>
                  have HY := sA hgood; clear hgood
                  go_wp2_with fail
                  have b0 := blk_cell (blk_box HA.out (.cells #[.int .i64 y.a, .int .i64 y.b, .int .i64 y.t] 114)) 0; have b1 := blk_cell (blk_box HA.out (.cells #[.int .i64 y.a, .int .i64 y.b, .int .i64 y.t] 114)) 1; have b2 := blk_cell (blk_box HA.out (.cells #[.int .i64 y.a, .int .i64 y.b, .int .i64 y.t] 114)) 2
                  have r0 := blk_cell (al_new wr (.cells #[.int .i64 y.a, .int .i64 y.b, .int .i64 y.t] 114)) 0; have r1 := blk_cell (al_new wr (.cells #[.int .i64 y.a, .int .i64 y.b, .int .i64 y.t] 114)) 1; have r2 := blk_cell (al_new wr (.cells #[.int .i64 y.a, .int .i64 y.b, .int .i64 y.t] 114)) 2
                  have s0 := pC (bA (Below.refl wr.heap.size wr) (.cells #[.int .i64 y.a, .int .i64 y.b, .int .i64 y.t] 114)) e0; have s1 := pC (bA (Below.refl wr.heap.size wr) (.cells #[.int .i64 y.a, .int .i64 y.b, .int .i64 y.t] 114)) e1; have s2 := pC (bA (Below.refl wr.heap.size wr) (.cells #[.int .i64 y.a, .int .i64 y.b, .int .i64 y.t] 114)) e2
                  clear a1 a2 d0 d1 d2 h0 h1
                  simp only [List.getElem?_toArray, List.getElem?_cons_zero, List.getElem?_cons_succ] at b0 b1 b2 r0 r1 r2
                  refine Grow.wp_region_growB (by kernel_rfl) (by kernel_rfl) ?_
                  repeat ((first | (refine Grow.lex_skip (by rfl) ?_) | (refine Grow.lex_do _ (by rfl) (by intro W hj; have t0 := pC hj.out b0; have t1 := pC hj.out b1; have t2 := pC hj.out b2; have t3 := pC hj.out r0; have t4 := pC hj.out r1; have t5 := pC hj.out r2; have t6 := pC hj.out s0; have t7 := pC hj.out s1; have t8 := pC hj.out s2; go_simp; first | exact Grow.Upon.val hj | exact Grow.Upon.callB hj (impl_nodes W A0 A1 (some ad) x.vs.length x.qs.length x.rs.length c0 c1 c2 hlen0 hlen1) | (have c := impl_goodRoad W y x.nodes HN.out.1 HN.out.2; rw [HY.out] at c; exact Grow.Upon.callB hj c) | (have c := impl_compare W z y; rw [HC.out] at c; exact Grow.Upon.callB hj c)) ?_)); refine Grow.lex_norm (fun K hK => ?_); go_simp; refine hK _ ?_; clear hK K)
                  refine Grow.lex_nil (fun W hj => ?_)
                  have HB2 := sA (bC (bel_box HB.out (.cells #[.int .i64 y.a, .int .i64 y.b, .int .i64 y.t] 114)) hj.out); have HA2 := sA (bB (blk_box HA.out (.cells #[.int .i64 y.a, .int .i64 y.b, .int .i64 y.t] 114)) hj.out); clear hj b0 b1 b2 r0 r1 r2 s0 s1 s2 q0 q1 q2 q3 q4
                  go_wp2
                  go_ret
                  exact ⟨by rw [HV.out (by simp [HT.out, HY.out])]; rfl, HB2.out⟩
            · have hkk : k = x.rs.length := by omega
              have HK2 := sA (hkk ▸ HG2.out : allI x.rs.length (roadAt x.nodes x.rs) = true); clear hkk HG2
              go_wp2
              go_ret
              exact ⟨by rw [show x.valid = true by unfold Inst.valid; rw [HF.out, HK0.out, HK1.out, HK2.out]; rfl]; rfl, HB.out⟩
end
end Go.Proofs.YtlhpbpkefkabgaaGreat.L1
namespace Go.Proofs.YtlhpbpkefkabgaaGreat.L1
open Go.RowKit Go.Proofs.YtlhpbpkefkabgaaGreatW.PrintWords Go.Proofs.YtlhpbpkefkabgaaGreat.B
set_option linter.unusedVariables false
set_option linter.unusedSimpArgs false
attribute [local go_sem] mk_cell mk_frozen
/-- The place of a node. -/
def Inst.placeAt (x : Inst) (n : Int) : Place :=
  if n < x.vs.length then (x.vs.getD n.toNat zV).home
  else if (n - x.vs.length).tmod 2 = 0 then (x.qs.getD ((n - x.vs.length).tdiv 2).toNat zQ).from_ else (x.qs.getD ((n - x.vs.length).tdiv 2).toNat zQ).to_
/-- The cells of a place from an address on. -/
def Place.On (p : Place) (w : World) (b o : Nat) : Prop := w.cell? ⟨b, o, none⟩ = some (.int .i64 p.x) ∧ w.cell? ⟨b, o + 1, none⟩ = some (.int .i64 p.y) ∧ w.cell? ⟨b, o + 2, none⟩ = some (.int .i64 p.o) ∧ w.cell? ⟨b, o + 3, none⟩ = some (.int .i64 p.c) ∧ w.cell? ⟨b, o + 4, none⟩ = some (.int .i64 p.h)
theorem Place.On.below {p : Place} {w w1 : World} {b o : Nat} (h : p.On w b o) (hb : Below w.heap.size w w1) : p.On w1 b o := ⟨pC hb h.1, pC hb h.2.1, pC hb h.2.2.1, pC hb h.2.2.2.1, pC hb h.2.2.2.2⟩
theorem Inst.place_v {x : Inst} {k : Nat} (h : k < x.vs.length) : x.placeAt k = (x.vs.getD k zV).home := by unfold Inst.placeAt; rw [if_pos (by omega)]; rfl
theorem Inst.place_q {x : Inst} {k q : Nat} (h : k = x.vs.length + 2 * q) : x.placeAt k = (x.qs.getD q zQ).from_ := by
  unfold Inst.placeAt
  rw [if_neg (by omega), show (k : Int) - x.vs.length = ((2 * q : Nat) : Int) by omega, if_pos (by show ((2 * q : Nat) : Int).tmod ((2 : Nat) : Int) = 0; rw [← Int.ofNat_tmod]; omega), show (((2 * q : Nat) : Int).tdiv 2).toNat = q by rw [show (2 : Int) = ((2 : Nat) : Int) from rfl, ← Int.ofNat_tdiv]; simp]
theorem Inst.place_q' {x : Inst} {k q : Nat} (h : k = x.vs.length + (2 * q + 1)) : x.placeAt k = (x.qs.getD q zQ).to_ := by
  unfold Inst.placeAt
  rw [if_neg (by omega), show (k : Int) - x.vs.length = ((2 * q + 1 : Nat) : Int) by omega, if_neg (by show ¬((2 * q + 1 : Nat) : Int).tmod ((2 : Nat) : Int) = 0; rw [← Int.ofNat_tmod]; omega), show (((2 * q + 1 : Nat) : Int).tdiv 2).toNat = q by rw [show (2 : Int) = ((2 : Nat) : Int) from rfl, ← Int.ofNat_tdiv]; omega]
section
variable (w : World)
set_option maxRecDepth 100000 in
set_option maxHeartbeats 1000000 in
theorem spec_placeOf (v : Value) (x : Inst) (hr : ReadInst w v x) (f0 : x.vs.length ≤ 64) (f1 : x.qs.length ≤ 1000) (n : Int) (h0 : 0 ≤ n) (h1 : n < x.nodes) : Calls Tryz.prog 53 #[v, .int .i64 n] w fun e w' => e = .returned (x.placeAt n).val ∧ Below w.heap.size w w' := by
  obtain ⟨A0, c0, A1, c1, A2, c2, rfl, r0, r1, r2⟩ := hr
  obtain ⟨k, rfl⟩ : ∃ k : Nat, n = k := ⟨n.toNat, by omega⟩
  clear h0 r2
  have h2 : k < x.vs.length + 2 * x.qs.length := by unfold Inst.nodes at h1; omega
  clear h1
  rcases Nat.lt_or_ge k x.vs.length with hlt | hge
  · have hp := Inst.place_v hlt
    obtain ⟨ad, e0, t0, t1⟩ := Kd.flat_cells (d := kVeh) rfl r0 zV k hlt
    cases e0
    generalize x.vs.getD k zV = y at t0 t1 hp
    have HP := sA hp; clear hp r0 r1
    have HO : y.home.On w (ad.add (k * 7)).block ((ad.add (k * 7)).off + 2) := ⟨t1 1 _ rfl, t1 2 _ rfl, t1 3 _ rfl, t1 4 _ rfl, t1 5 _ rfl⟩
    have hd : decide ((k : Int) < (x.vs.length : Int)) = true := by simp; omega
    go_enter Tryz.func53, Tryz.ntmps53
    have HO2 := HO.below (bA (bA (Below.refl w.heap.size w) (.cells #[.slice (some ad) x.vs.length c0, .slice A1 x.qs.length c1, .slice A2 x.rs.length c2] 47)) (.cells #[.int .i64 0, .int .i64 0, .int .i64 0, .int .i64 0, .int .i64 0] 69))
    have HR2 := fun j u h => pC (bA (bA (Below.refl w.heap.size w) (.cells #[.slice (some ad) x.vs.length c0, .slice A1 x.qs.length c1, .slice A2 x.rs.length c2] 47)) (.cells #[.int .i64 0, .int .i64 0, .int .i64 0, .int .i64 0, .int .i64 0] 69)) (t1 j u h)
    have HR0 := fun u h => pC (bA (bA (Below.refl w.heap.size w) (.cells #[.slice (some ad) x.vs.length c0, .slice A1 x.qs.length c1, .slice A2 x.rs.length c2] 47)) (.cells #[.int .i64 0, .int .i64 0, .int .i64 0, .int .i64 0, .int .i64 0] 69)) (t0 u h)
    clear t0 t1 HO
    obtain ⟨s0, s1, s2, s3, s4⟩ := HO2
    clear HR0 HR2
    go_wp2
    refine bodyPost_ret (v := .agg #[.int .i64 y.home.x, .int .i64 y.home.y, .int .i64 y.home.o, .int .i64 y.home.c, .int .i64 y.home.h]) (by simp [results, Tryz.results53, go_sem]) rfl ⟨by rw [HP.out]; rfl, ?_⟩
    with_reducible repeat (first | refine bel_set ?_ (by omega) _ | refine bA ?_ _ | exact Below.refl _ _)
  have hd : decide ((k : Int) < (x.vs.length : Int)) = false := by simp; omega
  rcases Nat.mod_two_eq_zero_or_one (k - x.vs.length) with hm | hm
  · obtain ⟨q, hq⟩ : ∃ q, k = x.vs.length + (2 * q) := ⟨(k - x.vs.length) / 2, by omega⟩
    have hp := Inst.place_q hq
    obtain ⟨ad, e0, t0, t1⟩ := Kd.flat_cells (d := kReq) rfl r1 zQ q (by omega)
    cases e0
    generalize x.qs.getD q zQ = y at t0 t1 hp
    have HP := sA hp; clear hp r0 r1
    have HO : y.from_.On w (ad.add (q * 12)).block ((ad.add (q * 12)).off + 2) := ⟨t1 1 _ rfl, t1 2 _ rfl, t1 3 _ rfl, t1 4 _ rfl, t1 5 _ rfl⟩
    obtain ⟨m, hm'⟩ : ∃ m, m = 2 * q := ⟨_, rfl⟩
    have q0 : IntKind.i64.wrap ((k : Int) - (x.vs.length : Int)) = (m : Int) := by rw [IntWalk.i64_in _ (by omega)]; omega
    have q1 : wrap64 ((m : Int) / 2) = (q : Int) := by rw [show (m : Int) / 2 = (q : Int) by omega]; exact IntWalk.wrap64_in _ (by omega)
    have q2 : wrap64 ((m : Int) % 2) = 0 := by rw [show (m : Int) % 2 = 0 by omega]; exact IntWalk.wrap64_in _ (by omega)
    have q4 : (m : Int) / 2 = (q : Int) := by omega
    have q5 : (m : Int) % 2 = 0 := by omega
    have q3 : q < x.qs.length := by omega
    clear hm h2 hq hm'
    go_enter Tryz.func53, Tryz.ntmps53
    have HO2 := HO.below (bA (bA (Below.refl w.heap.size w) (.cells #[.slice A0 x.vs.length c0, .slice (some ad) x.qs.length c1, .slice A2 x.rs.length c2] 47)) (.cells #[.int .i64 0, .int .i64 0, .int .i64 0, .int .i64 0, .int .i64 0] 69))
    have HR2 := fun j u h => pC (bA (bA (Below.refl w.heap.size w) (.cells #[.slice A0 x.vs.length c0, .slice (some ad) x.qs.length c1, .slice A2 x.rs.length c2] 47)) (.cells #[.int .i64 0, .int .i64 0, .int .i64 0, .int .i64 0, .int .i64 0] 69)) (t1 j u h)
    have HR0 := fun u h => pC (bA (bA (Below.refl w.heap.size w) (.cells #[.slice A0 x.vs.length c0, .slice (some ad) x.qs.length c1, .slice A2 x.rs.length c2] 47)) (.cells #[.int .i64 0, .int .i64 0, .int .i64 0, .int .i64 0, .int .i64 0] 69)) (t0 u h)
    clear t0 t1 HO
    have s0 := HR0 _ rfl; have s1 := HR2 0 _ rfl; have s2 := HR2 1 _ rfl; have s3 := HR2 2 _ rfl; have s4 := HR2 3 _ rfl; have s5 := HR2 4 _ rfl; have s6 := HR2 5 _ rfl; have s7 := HR2 6 _ rfl; have s8 := HR2 7 _ rfl; have s9 := HR2 8 _ rfl; have s10 := HR2 9 _ rfl; have s11 := HR2 10 _ rfl
    clear HR0 HR2
    go_wp2
    refine bodyPost_ret (v := .agg #[.int .i64 y.from_.x, .int .i64 y.from_.y, .int .i64 y.from_.o, .int .i64 y.from_.c, .int .i64 y.from_.h]) (by simp [results, Tryz.results53, go_sem]) rfl ⟨by rw [HP.out]; rfl, ?_⟩
    with_reducible repeat (first | refine bel_set ?_ (by omega) _ | refine bA ?_ _ | exact Below.refl _ _)
  · obtain ⟨q, hq⟩ : ∃ q, k = x.vs.length + (2 * q + 1) := ⟨(k - x.vs.length) / 2, by omega⟩
    have hp := Inst.place_q' hq
    obtain ⟨ad, e0, t0, t1⟩ := Kd.flat_cells (d := kReq) rfl r1 zQ q (by omega)
    cases e0
    generalize x.qs.getD q zQ = y at t0 t1 hp
    have HP := sA hp; clear hp r0 r1
    have HO : y.to_.On w (ad.add (q * 12)).block ((ad.add (q * 12)).off + 7) := ⟨t1 6 _ rfl, t1 7 _ rfl, t1 8 _ rfl, t1 9 _ rfl, t1 10 _ rfl⟩
    obtain ⟨m, hm'⟩ : ∃ m, m = 2 * q + 1 := ⟨_, rfl⟩
    have q0 : IntKind.i64.wrap ((k : Int) - (x.vs.length : Int)) = (m : Int) := by rw [IntWalk.i64_in _ (by omega)]; omega
    have q1 : wrap64 ((m : Int) / 2) = (q : Int) := by rw [show (m : Int) / 2 = (q : Int) by omega]; exact IntWalk.wrap64_in _ (by omega)
    have q2 : wrap64 ((m : Int) % 2) = 1 := by rw [show (m : Int) % 2 = 1 by omega]; exact IntWalk.wrap64_in _ (by omega)
    have q4 : (m : Int) / 2 = (q : Int) := by omega
    have q5 : (m : Int) % 2 = 1 := by omega
    have q3 : q < x.qs.length := by omega
    clear hm h2 hq hm'
    go_enter Tryz.func53, Tryz.ntmps53
    have HO2 := HO.below (bA (bA (Below.refl w.heap.size w) (.cells #[.slice A0 x.vs.length c0, .slice (some ad) x.qs.length c1, .slice A2 x.rs.length c2] 47)) (.cells #[.int .i64 0, .int .i64 0, .int .i64 0, .int .i64 0, .int .i64 0] 69))
    have HR2 := fun j u h => pC (bA (bA (Below.refl w.heap.size w) (.cells #[.slice A0 x.vs.length c0, .slice (some ad) x.qs.length c1, .slice A2 x.rs.length c2] 47)) (.cells #[.int .i64 0, .int .i64 0, .int .i64 0, .int .i64 0, .int .i64 0] 69)) (t1 j u h)
    have HR0 := fun u h => pC (bA (bA (Below.refl w.heap.size w) (.cells #[.slice A0 x.vs.length c0, .slice (some ad) x.qs.length c1, .slice A2 x.rs.length c2] 47)) (.cells #[.int .i64 0, .int .i64 0, .int .i64 0, .int .i64 0, .int .i64 0] 69)) (t0 u h)
    clear t0 t1 HO
    have s0 := HR0 _ rfl; have s1 := HR2 0 _ rfl; have s2 := HR2 1 _ rfl; have s3 := HR2 2 _ rfl; have s4 := HR2 3 _ rfl; have s5 := HR2 4 _ rfl; have s6 := HR2 5 _ rfl; have s7 := HR2 6 _ rfl; have s8 := HR2 7 _ rfl; have s9 := HR2 8 _ rfl; have s10 := HR2 9 _ rfl; have s11 := HR2 10 _ rfl
    clear HR0 HR2
    go_wp2
    refine bodyPost_ret (v := .agg #[.int .i64 y.to_.x, .int .i64 y.to_.y, .int .i64 y.to_.o, .int .i64 y.to_.c, .int .i64 y.to_.h]) (by simp [results, Tryz.results53, go_sem]) rfl ⟨by rw [HP.out]; rfl, ?_⟩
    with_reducible repeat (first | refine bel_set ?_ (by omega) _ | refine bA ?_ _ | exact Below.refl _ _)
set_option maxRecDepth 100000 in
set_option maxHeartbeats 1000000 in
theorem impl_place (v : Value) (x : Inst) (hr : ReadInst w v x) (f0 : x.vs.length ≤ 64) (f1 : x.qs.length ≤ 1000) (n : Int) (h0 : 0 ≤ n) (h1 : n < x.nodes) : Calls Tryz.prog 103 #[v, .int .i64 n] w fun e w' => e = .returned (x.placeAt n).val ∧ Below w.heap.size w w' := by
  obtain ⟨A0, c0, A1, c1, A2, c2, rfl, r0, r1, r2⟩ := hr
  obtain ⟨k, rfl⟩ : ∃ k : Nat, n = k := ⟨n.toNat, by omega⟩
  clear h0 r2
  have h2 : k < x.vs.length + 2 * x.qs.length := by unfold Inst.nodes at h1; omega
  clear h1
  rcases Nat.lt_or_ge k x.vs.length with hlt | hge
  · have hp := Inst.place_v hlt
    obtain ⟨ad, e0, t0, t1⟩ := Kd.flat_cells (d := kVeh) rfl r0 zV k hlt
    cases e0
    generalize x.vs.getD k zV = y at t0 t1 hp
    have HP := sA hp; clear hp r0 r1
    have HO : y.home.On w (ad.add (k * 7)).block ((ad.add (k * 7)).off + 2) := ⟨t1 1 _ rfl, t1 2 _ rfl, t1 3 _ rfl, t1 4 _ rfl, t1 5 _ rfl⟩
    have hd : decide ((k : Int) < (x.vs.length : Int)) = true := by simp; omega
    go_enter Tryz.func103, Tryz.ntmps103
    clear t0 t1
    go_wp2_with fail
    have HB := sA (bA (bA (Below.refl w.heap.size w) (.cells #[.slice (some ad) x.vs.length c0, .slice A1 x.qs.length c1, .slice A2 x.rs.length c2] 47)) (.cells #[.int .i64 0, .int .i64 0, .int .i64 0, .int .i64 0, .int .i64 0] 69))
    have HI := sA (blk_box (al_new w (.cells #[.slice (some ad) x.vs.length c0, .slice A1 x.qs.length c1, .slice A2 x.rs.length c2] 47)) (.cells #[.int .i64 0, .int .i64 0, .int .i64 0, .int .i64 0, .int .i64 0] 69))
    have HZ := sA (show ((w.alloc (.cells #[.slice (some ad) x.vs.length c0, .slice A1 x.qs.length c1, .slice A2 x.rs.length c2] 47)).alloc (.cells #[.int .i64 0, .int .i64 0, .int .i64 0, .int .i64 0, .int .i64 0] 69)).heap[w.heap.size + 1]? = some (.cells #[.int .i64 0, .int .i64 0, .int .i64 0, .int .i64 0, .int .i64 0] 69 (0, 0)) from by rw [← al_size w (.cells #[.slice (some ad) x.vs.length c0, .slice A1 x.qs.length c1, .slice A2 x.rs.length c2] 47)]; exact al_new _ _)
    go_at_call 80
    refine (impl_vehicles _ (some ad) A1 A2 x.vs.length x.qs.length x.rs.length c0 c1 c2 (by omega)).mono ?_
    rintro e w2 ⟨rfl, hb⟩
    replace HB := sA (bC HB.out hb); replace HI := sA (bB HI.out hb); replace HZ := sA (bB HZ.out hb); clear hb
    obtain ⟨b1, b2⟩ := lay0 HI.out
    obtain ⟨d1, d2⟩ := lay0 HZ.out
    obtain ⟨s0, s1, s2, s3, s4⟩ := HO.below HB.out
    go_wp2
    refine bodyPost_ret (v := .agg #[.int .i64 y.home.x, .int .i64 y.home.y, .int .i64 y.home.o, .int .i64 y.home.c, .int .i64 y.home.h]) (by simp [results, Tryz.results103, go_sem, d1, d2]) rfl ⟨by rw [HP.out]; rfl, ?_⟩
    with_reducible repeat (first | exact HB.out | refine bel_set ?_ (by omega) _ | refine bA ?_ _ | exact Below.refl _ _)
  have hd : decide ((k : Int) < (x.vs.length : Int)) = false := by simp; omega
  rcases Nat.mod_two_eq_zero_or_one (k - x.vs.length) with hm | hm
  · obtain ⟨q, hq⟩ : ∃ q, k = x.vs.length + (2 * q) := ⟨(k - x.vs.length) / 2, by omega⟩
    have hp := Inst.place_q hq
    obtain ⟨ad, e0, t0, t1⟩ := Kd.flat_cells (d := kReq) rfl r1 zQ q (by omega)
    cases e0
    generalize x.qs.getD q zQ = y at t0 t1 hp
    have HP := sA hp; clear hp r0 r1
    have HO : y.from_.On w (ad.add (q * 12)).block ((ad.add (q * 12)).off + 2) := ⟨t1 1 _ rfl, t1 2 _ rfl, t1 3 _ rfl, t1 4 _ rfl, t1 5 _ rfl⟩
    obtain ⟨m, hm'⟩ : ∃ m, m = 2 * q := ⟨_, rfl⟩
    have q0 : IntKind.i64.wrap ((k : Int) - (x.vs.length : Int)) = (m : Int) := by rw [IntWalk.i64_in _ (by omega)]; omega
    have q1 : wrap64 ((m : Int) / 2) = (q : Int) := by rw [show (m : Int) / 2 = (q : Int) by omega]; exact IntWalk.wrap64_in _ (by omega)
    have q2 : wrap64 ((m : Int) % 2) = 0 := by rw [show (m : Int) % 2 = 0 by omega]; exact IntWalk.wrap64_in _ (by omega)
    have q4 : (m : Int) / 2 = (q : Int) := by omega
    have q5 : (m : Int) % 2 = 0 := by omega
    have q3 : q < x.qs.length := by omega
    clear hm h2 hq hm'
    go_enter Tryz.func103, Tryz.ntmps103
    clear t0 t1
    go_wp2_with fail
    have HB := sA (bA (bA (Below.refl w.heap.size w) (.cells #[.slice A0 x.vs.length c0, .slice (some ad) x.qs.length c1, .slice A2 x.rs.length c2] 47)) (.cells #[.int .i64 0, .int .i64 0, .int .i64 0, .int .i64 0, .int .i64 0] 69))
    have HI := sA (blk_box (al_new w (.cells #[.slice A0 x.vs.length c0, .slice (some ad) x.qs.length c1, .slice A2 x.rs.length c2] 47)) (.cells #[.int .i64 0, .int .i64 0, .int .i64 0, .int .i64 0, .int .i64 0] 69))
    have HZ := sA (show ((w.alloc (.cells #[.slice A0 x.vs.length c0, .slice (some ad) x.qs.length c1, .slice A2 x.rs.length c2] 47)).alloc (.cells #[.int .i64 0, .int .i64 0, .int .i64 0, .int .i64 0, .int .i64 0] 69)).heap[w.heap.size + 1]? = some (.cells #[.int .i64 0, .int .i64 0, .int .i64 0, .int .i64 0, .int .i64 0] 69 (0, 0)) from by rw [← al_size w (.cells #[.slice A0 x.vs.length c0, .slice (some ad) x.qs.length c1, .slice A2 x.rs.length c2] 47)]; exact al_new _ _)
    go_at_call 80
    refine (impl_vehicles _ A0 (some ad) A2 x.vs.length x.qs.length x.rs.length c0 c1 c2 (by omega)).mono ?_
    rintro e w2 ⟨rfl, hb⟩
    replace HB := sA (bC HB.out hb); replace HI := sA (bB HI.out hb); replace HZ := sA (bB HZ.out hb); clear hb
    obtain ⟨b1, b2⟩ := lay0 HI.out
    go_wp2_with fail
    clear b1 b2
    go_at_call 80
    refine (impl_vehicles _ A0 (some ad) A2 x.vs.length x.qs.length x.rs.length c0 c1 c2 (by omega)).mono ?_
    rintro e w3 ⟨rfl, hb⟩
    replace HB := sA (bC HB.out hb); replace HI := sA (bB HI.out hb); replace HZ := sA (bB HZ.out hb); clear hb
    obtain ⟨b1, b2⟩ := lay0 HI.out
    obtain ⟨d1, d2⟩ := lay0 HZ.out
    obtain ⟨s0, s1, s2, s3, s4⟩ := HO.below HB.out
    go_wp2
    refine bodyPost_ret (v := .agg #[.int .i64 y.from_.x, .int .i64 y.from_.y, .int .i64 y.from_.o, .int .i64 y.from_.c, .int .i64 y.from_.h]) (by simp [results, Tryz.results103, go_sem, d1, d2]) rfl ⟨by rw [HP.out]; rfl, ?_⟩
    with_reducible repeat (first | exact HB.out | refine bel_set ?_ (by omega) _ | refine bA ?_ _ | exact Below.refl _ _)
  · obtain ⟨q, hq⟩ : ∃ q, k = x.vs.length + (2 * q + 1) := ⟨(k - x.vs.length) / 2, by omega⟩
    have hp := Inst.place_q' hq
    obtain ⟨ad, e0, t0, t1⟩ := Kd.flat_cells (d := kReq) rfl r1 zQ q (by omega)
    cases e0
    generalize x.qs.getD q zQ = y at t0 t1 hp
    have HP := sA hp; clear hp r0 r1
    have HO : y.to_.On w (ad.add (q * 12)).block ((ad.add (q * 12)).off + 7) := ⟨t1 6 _ rfl, t1 7 _ rfl, t1 8 _ rfl, t1 9 _ rfl, t1 10 _ rfl⟩
    obtain ⟨m, hm'⟩ : ∃ m, m = 2 * q + 1 := ⟨_, rfl⟩
    have q0 : IntKind.i64.wrap ((k : Int) - (x.vs.length : Int)) = (m : Int) := by rw [IntWalk.i64_in _ (by omega)]; omega
    have q1 : wrap64 ((m : Int) / 2) = (q : Int) := by rw [show (m : Int) / 2 = (q : Int) by omega]; exact IntWalk.wrap64_in _ (by omega)
    have q2 : wrap64 ((m : Int) % 2) = 1 := by rw [show (m : Int) % 2 = 1 by omega]; exact IntWalk.wrap64_in _ (by omega)
    have q4 : (m : Int) / 2 = (q : Int) := by omega
    have q5 : (m : Int) % 2 = 1 := by omega
    have q3 : q < x.qs.length := by omega
    clear hm h2 hq hm'
    go_enter Tryz.func103, Tryz.ntmps103
    clear t0 t1
    go_wp2_with fail
    have HB := sA (bA (bA (Below.refl w.heap.size w) (.cells #[.slice A0 x.vs.length c0, .slice (some ad) x.qs.length c1, .slice A2 x.rs.length c2] 47)) (.cells #[.int .i64 0, .int .i64 0, .int .i64 0, .int .i64 0, .int .i64 0] 69))
    have HI := sA (blk_box (al_new w (.cells #[.slice A0 x.vs.length c0, .slice (some ad) x.qs.length c1, .slice A2 x.rs.length c2] 47)) (.cells #[.int .i64 0, .int .i64 0, .int .i64 0, .int .i64 0, .int .i64 0] 69))
    have HZ := sA (show ((w.alloc (.cells #[.slice A0 x.vs.length c0, .slice (some ad) x.qs.length c1, .slice A2 x.rs.length c2] 47)).alloc (.cells #[.int .i64 0, .int .i64 0, .int .i64 0, .int .i64 0, .int .i64 0] 69)).heap[w.heap.size + 1]? = some (.cells #[.int .i64 0, .int .i64 0, .int .i64 0, .int .i64 0, .int .i64 0] 69 (0, 0)) from by rw [← al_size w (.cells #[.slice A0 x.vs.length c0, .slice (some ad) x.qs.length c1, .slice A2 x.rs.length c2] 47)]; exact al_new _ _)
    go_at_call 80
    refine (impl_vehicles _ A0 (some ad) A2 x.vs.length x.qs.length x.rs.length c0 c1 c2 (by omega)).mono ?_
    rintro e w2 ⟨rfl, hb⟩
    replace HB := sA (bC HB.out hb); replace HI := sA (bB HI.out hb); replace HZ := sA (bB HZ.out hb); clear hb
    obtain ⟨b1, b2⟩ := lay0 HI.out
    go_wp2_with fail
    clear b1 b2
    go_at_call 80
    refine (impl_vehicles _ A0 (some ad) A2 x.vs.length x.qs.length x.rs.length c0 c1 c2 (by omega)).mono ?_
    rintro e w3 ⟨rfl, hb⟩
    replace HB := sA (bC HB.out hb); replace HI := sA (bB HI.out hb); replace HZ := sA (bB HZ.out hb); clear hb
    obtain ⟨b1, b2⟩ := lay0 HI.out
    obtain ⟨d1, d2⟩ := lay0 HZ.out
    obtain ⟨s0, s1, s2, s3, s4⟩ := HO.below HB.out
    go_wp2
    refine bodyPost_ret (v := .agg #[.int .i64 y.to_.x, .int .i64 y.to_.y, .int .i64 y.to_.o, .int .i64 y.to_.c, .int .i64 y.to_.h]) (by simp [results, Tryz.results103, go_sem, d1, d2]) rfl ⟨by rw [HP.out]; rfl, ?_⟩
    with_reducible repeat (first | exact HB.out | refine bel_set ?_ (by omega) _ | refine bA ?_ _ | exact Below.refl _ _)
end
end Go.Proofs.YtlhpbpkefkabgaaGreat.L1
