/- ValidInst of the reference and of the program answer Inst.valid. -/
import Derived.Test.YteefopaoodfapaaDoorL1e
namespace Go.Proofs.YteefopaoodfapaaDoor.L1
open Go.RowKit Go.Proofs.YteefopaoodfapaaDoorW.PrintWords Go.Proofs.YteefopaoodfapaaDoor.B
set_option linter.unusedVariables false
set_option linter.unusedSimpArgs false
attribute [local go_sem] mk_cell mk_frozen
theorem Inst.valid_few {x : Inst} (h : x.few = false) : x.valid = false := by simp [Inst.valid, h]
theorem Inst.valid_vs {x : Inst} {k : Nat} (hk : k < x.vs.length) (h : (x.vs.getD k zV).good = false) : x.valid = false := by unfold Inst.valid; rw [allI_false (f := fun k => (x.vs.getD k zV).good) hk h]; simp
theorem Inst.valid_qs {x : Inst} {k : Nat} (hk : k < x.qs.length) (h : (x.qs.getD k zQ).good = false) : x.valid = false := by unfold Inst.valid; rw [allI_false (f := fun k => (x.qs.getD k zQ).good) hk h]; simp
theorem Inst.valid_rs {x : Inst} {k : Nat} (hk : k < x.rs.length) (h : roadAt x.nodes x.rs k = false) : x.valid = false := by unfold Inst.valid; rw [allI_false (f := roadAt x.nodes x.rs) hk h]; simp
theorem nodes_bd (x : Inst) (f0 : x.vs.length ≤ 64) (f1 : x.qs.length ≤ 1000) : 0 ≤ x.nodes ∧ x.nodes ≤ 100000000 := by unfold Inst.nodes; omega
section
variable (w : World)
set_option maxRecDepth 100000 in
set_option maxHeartbeats 2000000 in
theorem spec_validInst (v : Value) (x : Inst) (hr : ReadInst w v x) : Calls Tryd.prog 16 #[v] w fun e w' => e = .returned (.bool x.valid) ∧ Below w.heap.size w w' := by
  obtain ⟨A0, c0, A1, c1, A2, c2, rfl, r0, r1, r2⟩ := hr
  have m0 := r0.2.1; have m1 := r1.2.1; have m2 := r2.2.1
  have HR := Aside0.mk (And.intro r0 (And.intro r1 r2)); clear r0 r1 r2
  rcases Nat.lt_or_ge 64 x.vs.length with f0 | f0
  · have g0 : decide ((64 : Int) < (x.vs.length : Int)) = true := by simp; omega
    go_enter Tryd.func16, Tryd.ntmps16
    go_wp2
    go_ret
    exact ⟨by rw [Inst.valid_few (by unfold Inst.few; simp; omega)]; rfl, below_alloc (Below.refl _ _) _⟩
  have g0 : decide ((64 : Int) < (x.vs.length : Int)) = false := by simp; omega
  rcases Nat.lt_or_ge 1000 x.qs.length with f1 | f1
  · have g1 : decide ((1000 : Int) < (x.qs.length : Int)) = true := by simp; omega
    go_enter Tryd.func16, Tryd.ntmps16
    go_wp2
    go_ret
    exact ⟨by rw [Inst.valid_few (by unfold Inst.few; simp; omega)]; rfl, below_alloc (Below.refl _ _) _⟩
  have g1 : decide ((1000 : Int) < (x.qs.length : Int)) = false := by simp; omega
  rcases Nat.lt_or_ge 4000 x.rs.length with f2 | f2
  · have g2 : decide ((4000 : Int) < (x.rs.length : Int)) = true := by simp; omega
    go_enter Tryd.func16, Tryd.ntmps16
    go_wp2
    go_ret
    exact ⟨by rw [Inst.valid_few (by unfold Inst.few; simp; omega)]; rfl, below_alloc (Below.refl _ _) _⟩
  have g2 : decide ((4000 : Int) < (x.rs.length : Int)) = false := by simp; omega
  have HF := Aside0.mk (show x.few = true by unfold Inst.few; simp; omega)
  go_enter Tryd.func16, Tryd.ntmps16
  go_wp2_with fail
  have HB := Aside0.mk (below_alloc (Below.refl w.heap.size w) (.cells #[.slice A0 x.vs.length c0, .slice A1 x.qs.length c1, .slice A2 x.rs.length c2] 34))
  have HA := Aside0.mk (al_new w (.cells #[.slice A0 x.vs.length c0, .slice A1 x.qs.length c1, .slice A2 x.rs.length c2] 34))
  go_loopg [3] (x.vs.length + 1) (fun q v wr => ∃ k, q = x.vs.length + 1 - k ∧ k ≤ x.vs.length ∧ v = .int .i64 k ∧ Aside0 (allI k (fun k => (x.vs.getD k zV).good) = true) ∧ Aside0 (wr.heap[w.heap.size]? = some (.cells #[.slice A0 x.vs.length c0, .slice A1 x.qs.length c1, .slice A2 x.rs.length c2] 34 (0, 0))) ∧ Aside0 (Below w.heap.size w wr))
  case atStart => exact ⟨0, by omega, by omega, rfl, ⟨rfl⟩, HA, HB⟩
  case round =>
    clear HA HB
    obtain ⟨k, rfl, hk, rfl, HG0, HA, HB⟩ := hrel
    obtain ⟨a1, a2⟩ := lay (Below.refl _ _) HA.out
    by_cases hlt : k < x.vs.length
    · obtain ⟨ad, e0, h0, h1⟩ := Kd.flat_cells (d := kVeh) rfl (Kd.C_below HR.out.1 HB.out) zV k hlt
      cases e0
      have hs := allI_succ k (fun k => (x.vs.getD k zV).good)
      have hv := @Inst.valid_vs x k hlt
      generalize x.vs.getD k zV = y at h0 h1 hs hv
      have HS := Aside0.mk hs; have HV := Aside0.mk hv; clear hs hv
      have d0 := h0 _ rfl; have d1 := h1 0 _ rfl; have d2 := h1 1 _ rfl; have d3 := h1 2 _ rfl; have d4 := h1 3 _ rfl; have d5 := h1 4 _ rfl; have d6 := h1 5 _ rfl
      clear h0 h1
      cases hgood : y.good with
      | true =>
        have HY := Aside0.mk hgood; clear hgood
        go_wp2_with (first | (go_at_call 33; refine (spec_goodVeh _ y).mono ?_; rw [HY.out]; rintro e w2 ⟨rfl, hb⟩; have HB1 := Aside0.mk (bel_call HB.out hb); have HA1 := Aside0.mk (blk_below HA.out hb); clear hb))
        go_roundg (x.vs.length + 1 - (k + 1))
        case measure => omega
        case rel => exact ⟨k + 1, rfl, hlt, by go_num, ⟨by rw [HS.out, HG0.out, HY.out]; rfl⟩, HA1, HB1⟩
      | false =>
        have HY := Aside0.mk hgood; clear hgood
        go_wp2_with (first | (go_at_call 33; refine (spec_goodVeh _ y).mono ?_; rw [HY.out]; rintro e w2 ⟨rfl, hb⟩; have HB1 := Aside0.mk (bel_call HB.out hb); have HA1 := Aside0.mk (blk_below HA.out hb); clear hb))
        go_ret
        exact ⟨by rw [HV.out HY.out]; rfl, HB1.out⟩
    · have hkk : k = x.vs.length := by omega
      have HK0 := Aside0.mk (hkk ▸ HG0.out : allI x.vs.length (fun k => (x.vs.getD k zV).good) = true); clear hkk HG0
      go_wp2_with fail
      clear a1 a2
      go_loopg [4] (x.qs.length + 1) (fun q v wr => ∃ k, q = x.qs.length + 1 - k ∧ k ≤ x.qs.length ∧ v = .int .i64 k ∧ Aside0 (allI k (fun k => (x.qs.getD k zQ).good) = true) ∧ Aside0 (wr.heap[w.heap.size]? = some (.cells #[.slice A0 x.vs.length c0, .slice A1 x.qs.length c1, .slice A2 x.rs.length c2] 34 (0, 0))) ∧ Aside0 (Below w.heap.size w wr))
      case atStart => exact ⟨0, by omega, by omega, rfl, ⟨rfl⟩, HA, HB⟩
      case round =>
        clear HA HB
        obtain ⟨k, rfl, hk, rfl, HG1, HA, HB⟩ := hrel
        obtain ⟨a1, a2⟩ := lay (Below.refl _ _) HA.out
        by_cases hlt : k < x.qs.length
        · obtain ⟨ad, e0, h0, h1⟩ := Kd.flat_cells (d := kReq) rfl (Kd.C_below HR.out.2.1 HB.out) zQ k hlt
          cases e0
          have hs := allI_succ k (fun k => (x.qs.getD k zQ).good)
          have hv := @Inst.valid_qs x k hlt
          generalize x.qs.getD k zQ = y at h0 h1 hs hv
          have HS := Aside0.mk hs; have HV := Aside0.mk hv; clear hs hv
          have d0 := h0 _ rfl; have d1 := h1 0 _ rfl; have d2 := h1 1 _ rfl; have d3 := h1 2 _ rfl; have d4 := h1 3 _ rfl; have d5 := h1 4 _ rfl; have d6 := h1 5 _ rfl; have d7 := h1 6 _ rfl; have d8 := h1 7 _ rfl; have d9 := h1 8 _ rfl; have d10 := h1 9 _ rfl; have d11 := h1 10 _ rfl
          clear h0 h1
          cases hgood : y.good with
          | true =>
            have HY := Aside0.mk hgood; clear hgood
            go_wp2_with (first | (go_at_call 34; refine (spec_goodReq _ y).mono ?_; rw [HY.out]; rintro e w2 ⟨rfl, hb⟩; have HB1 := Aside0.mk (bel_call HB.out hb); have HA1 := Aside0.mk (blk_below HA.out hb); clear hb))
            go_roundg (x.qs.length + 1 - (k + 1))
            case measure => omega
            case rel => exact ⟨k + 1, rfl, hlt, by go_num, ⟨by rw [HS.out, HG1.out, HY.out]; rfl⟩, HA1, HB1⟩
          | false =>
            have HY := Aside0.mk hgood; clear hgood
            go_wp2_with (first | (go_at_call 34; refine (spec_goodReq _ y).mono ?_; rw [HY.out]; rintro e w2 ⟨rfl, hb⟩; have HB1 := Aside0.mk (bel_call HB.out hb); have HA1 := Aside0.mk (blk_below HA.out hb); clear hb))
            go_ret
            exact ⟨by rw [HV.out HY.out]; rfl, HB1.out⟩
        · have hkk : k = x.qs.length := by omega
          have HK1 := Aside0.mk (hkk ▸ HG1.out : allI x.qs.length (fun k => (x.qs.getD k zQ).good) = true); clear hkk HG1
          go_wp2_with fail
          clear a1 a2
          go_loopg [5] (x.rs.length + 1) (fun q v wr => ∃ k, q = x.rs.length + 1 - k ∧ k ≤ x.rs.length ∧ v = .int .i64 k ∧ Aside0 (allI k (roadAt x.nodes x.rs) = true) ∧ Aside0 (wr.heap[w.heap.size]? = some (.cells #[.slice A0 x.vs.length c0, .slice A1 x.qs.length c1, .slice A2 x.rs.length c2] 34 (0, 0))) ∧ Aside0 (Below w.heap.size w wr))
          case atStart => exact ⟨0, by omega, by omega, rfl, ⟨rfl⟩, HA, HB⟩
          case round =>
            clear HA HB
            obtain ⟨k, rfl, hk, rfl, HG2, HA, HB⟩ := hrel
            obtain ⟨a1, a2⟩ := lay (Below.refl _ _) HA.out
            by_cases hlt : k < x.rs.length
            · obtain ⟨ad, e0, h0, h1⟩ := Kd.flat_cells (d := kRoad) rfl (Kd.C_below HR.out.2.2 HB.out) zR k hlt
              cases e0
              have hs := allI_succ k (roadAt x.nodes x.rs)
              have hv := @Inst.valid_rs x k hlt
              have HN := Aside0.mk (nodes_bd x f0 f1)
              rcases Nat.eq_zero_or_pos k with hk0 | hk0
              · -- the first road
                have hat : roadAt x.nodes x.rs k = (x.rs.getD k zR).good x.nodes := by simp [roadAt, hk0]
                have hd : decide ((0 : Int) < (k : Int)) = false := by simp; omega
                have hd' : decide (0 < k) = false := by simp; omega
                have HK0 := Aside0.mk hk0; clear hk0
                generalize x.rs.getD k zR = y at h0 h1 hat
                have HT := Aside0.mk hat; have HS := Aside0.mk hs; have HV := Aside0.mk hv; clear hat hs hv
                have d0 := h0 _ rfl; have d1 := h1 0 _ rfl; have d2 := h1 1 _ rfl
                have hlen0 : x.vs.length ≤ 1048576 := by omega
                have hlen1 : x.qs.length ≤ 1048576 := by omega
                cases hgood : y.good x.nodes with
                | true =>
                  have HY := Aside0.mk hgood; clear hgood
                  go_wp2_with fail
                  go_region_held3 (fun w' => w'.cell? ⟨w.heap.size, 0, none⟩ = some (.slice A0 x.vs.length c0) ∧ w'.cell? ⟨w.heap.size, 1, none⟩ = some (.slice A1 x.qs.length c1) ∧ w'.cell? ⟨w.heap.size, 2, none⟩ = some (.slice (some ad) x.rs.length c2) ∧ w'.cell? (ad.add (k * 3)) = some (.int .i64 y.a) ∧ w'.cell? ⟨(ad.add (k * 3)).block, (ad.add (k * 3)).off + (0 + 1), none⟩ = some (.int .i64 y.b) ∧ w'.cell? ⟨(ad.add (k * 3)).block, (ad.add (k * 3)).off + (1 + 1), none⟩ = some (.int .i64 y.t) ∧ Below wr.heap.size wr w')
                    (first | exact ⟨a1 0, a1 1, a1 2, d0, d1, d2, below_drew (Below.refl _ _)⟩ | exact keepC6 (by assumption) hb2 | exact keepC6 (by assumption) hb3)
                    (first | (go_at_call 36; refine (spec_nodes _ A0 A1 (some ad) x.vs.length x.qs.length x.rs.length c0 c1 c2 hlen0 hlen1).mono ?_; rintro e w2 ⟨rfl, hb2⟩) | (go_at_call 35; refine (spec_goodRoad _ y x.nodes HN.out.1 HN.out.2).mono ?_; rw [HY.out]; rintro e w3 ⟨rfl, hb3⟩))
                  rename_i hH
                  replace d0 := pw_cell_below hH.2.2.2.2.2.2 d0
                  replace d1 := pw_cell_below hH.2.2.2.2.2.2 d1
                  replace d2 := pw_cell_below hH.2.2.2.2.2.2 d2
                  have HB2 := Aside0.mk (bel_call HB.out hH.2.2.2.2.2.2); have HA2 := Aside0.mk (blk_below HA.out hH.2.2.2.2.2.2); clear hH
                  obtain ⟨b1, b2⟩ := lay (Below.refl _ _) HA2.out
                  go_wp2_with fail
                  go_quiet (fail)
                  clear b1 b2
                  go_wp2
                  go_roundg (x.rs.length + 1 - (k + 1))
                  case measure => omega
                  case rel => exact ⟨k + 1, rfl, hlt, by go_num, ⟨by rw [HS.out, HG2.out, HT.out, HY.out]; rfl⟩, HA2, ⟨pw_below_drewN HB2.out _⟩⟩
                | false =>
                  have HY := Aside0.mk hgood; clear hgood
                  go_wp2_with fail
                  go_region_held3 (fun w' => w'.cell? ⟨w.heap.size, 0, none⟩ = some (.slice A0 x.vs.length c0) ∧ w'.cell? ⟨w.heap.size, 1, none⟩ = some (.slice A1 x.qs.length c1) ∧ w'.cell? ⟨w.heap.size, 2, none⟩ = some (.slice (some ad) x.rs.length c2) ∧ w'.cell? (ad.add (k * 3)) = some (.int .i64 y.a) ∧ w'.cell? ⟨(ad.add (k * 3)).block, (ad.add (k * 3)).off + (0 + 1), none⟩ = some (.int .i64 y.b) ∧ w'.cell? ⟨(ad.add (k * 3)).block, (ad.add (k * 3)).off + (1 + 1), none⟩ = some (.int .i64 y.t) ∧ Below wr.heap.size wr w')
                    (first | exact ⟨a1 0, a1 1, a1 2, d0, d1, d2, below_drew (Below.refl _ _)⟩ | exact keepC6 (by assumption) hb2 | exact keepC6 (by assumption) hb3)
                    (first | (go_at_call 36; refine (spec_nodes _ A0 A1 (some ad) x.vs.length x.qs.length x.rs.length c0 c1 c2 hlen0 hlen1).mono ?_; rintro e w2 ⟨rfl, hb2⟩) | (go_at_call 35; refine (spec_goodRoad _ y x.nodes HN.out.1 HN.out.2).mono ?_; rw [HY.out]; rintro e w3 ⟨rfl, hb3⟩))
                  rename_i hH
                  replace d0 := pw_cell_below hH.2.2.2.2.2.2 d0
                  replace d1 := pw_cell_below hH.2.2.2.2.2.2 d1
                  replace d2 := pw_cell_below hH.2.2.2.2.2.2 d2
                  have HB2 := Aside0.mk (bel_call HB.out hH.2.2.2.2.2.2); have HA2 := Aside0.mk (blk_below HA.out hH.2.2.2.2.2.2); clear hH
                  obtain ⟨b1, b2⟩ := lay (Below.refl _ _) HA2.out
                  go_wp2_with fail
                  go_ret
                  exact ⟨by rw [HV.out (by simp [HT.out, HY.out])]; rfl, HB2.out⟩
              · -- a later road
                have hat : roadAt x.nodes x.rs k = ((x.rs.getD k zR).good x.nodes && (x.rs.getD (k - 1) zR).lt (x.rs.getD k zR)) := by simp [roadAt, Nat.ne_of_gt hk0]
                have hd : decide ((0 : Int) < (k : Int)) = true := by simp; omega
                have hd' : decide (0 < k) = true := by simp; omega
                obtain ⟨ad', e0', g0, g1⟩ := Kd.flat_cells (d := kRoad) rfl (Kd.C_below HR.out.2.2 HB.out) zR (k - 1) (by omega)
                cases e0'
                generalize x.rs.getD (k - 1) zR = z at g0 g1 hat
                generalize x.rs.getD k zR = y at h0 h1 hat
                have HT := Aside0.mk hat; have HS := Aside0.mk hs; have HV := Aside0.mk hv; clear hat hs hv
                have d0 := h0 _ rfl; have d1 := h1 0 _ rfl; have d2 := h1 1 _ rfl
                have e0 := g0 _ rfl; have e1 := g1 0 _ rfl; have e2 := g1 1 _ rfl
                have hlen0 : x.vs.length ≤ 1048576 := by omega
                have hlen1 : x.qs.length ≤ 1048576 := by omega
                cases hgood : y.good x.nodes with
                | true =>
                  have HY := Aside0.mk hgood; clear hgood
                  go_wp2_with fail
                  go_region_held3 (fun w' => w'.cell? ⟨w.heap.size, 0, none⟩ = some (.slice A0 x.vs.length c0) ∧ w'.cell? ⟨w.heap.size, 1, none⟩ = some (.slice A1 x.qs.length c1) ∧ w'.cell? ⟨w.heap.size, 2, none⟩ = some (.slice (some ad) x.rs.length c2) ∧ w'.cell? (ad.add (k * 3)) = some (.int .i64 y.a) ∧ w'.cell? ⟨(ad.add (k * 3)).block, (ad.add (k * 3)).off + (0 + 1), none⟩ = some (.int .i64 y.b) ∧ w'.cell? ⟨(ad.add (k * 3)).block, (ad.add (k * 3)).off + (1 + 1), none⟩ = some (.int .i64 y.t) ∧ Below wr.heap.size wr w')
                    (first | exact ⟨a1 0, a1 1, a1 2, d0, d1, d2, below_drew (Below.refl _ _)⟩ | exact keepC6 (by assumption) hb2 | exact keepC6 (by assumption) hb3)
                    (first | (go_at_call 36; refine (spec_nodes _ A0 A1 (some ad) x.vs.length x.qs.length x.rs.length c0 c1 c2 hlen0 hlen1).mono ?_; rintro e w2 ⟨rfl, hb2⟩) | (go_at_call 35; refine (spec_goodRoad _ y x.nodes HN.out.1 HN.out.2).mono ?_; rw [HY.out]; rintro e w3 ⟨rfl, hb3⟩))
                  rename_i hH
                  replace d0 := pw_cell_below hH.2.2.2.2.2.2 d0
                  replace d1 := pw_cell_below hH.2.2.2.2.2.2 d1
                  replace d2 := pw_cell_below hH.2.2.2.2.2.2 d2
                  replace e0 := pw_cell_below hH.2.2.2.2.2.2 e0
                  replace e1 := pw_cell_below hH.2.2.2.2.2.2 e1
                  replace e2 := pw_cell_below hH.2.2.2.2.2.2 e2
                  have HB2 := Aside0.mk (bel_call HB.out hH.2.2.2.2.2.2); have HA2 := Aside0.mk (blk_below HA.out hH.2.2.2.2.2.2); clear hH
                  obtain ⟨b1, b2⟩ := lay (Below.refl _ _) HA2.out
                  go_wp2_with fail
                  cases hlt2 : z.lt y with
                  | true =>
                    have HZ := Aside0.mk hlt2; clear hlt2
                    have q0 : (k : Int) - 1 < (x.rs.length : Int) := by omega
                    have q1 : (0 : Int) ≤ (k : Int) - 1 := by omega
                    have q2 : (1 : Int) ≤ (k : Int) := by omega
                    have q3 : IntKind.i64.wrap ((k : Int) - 1) = (k : Int) - 1 := IntWalk.i64_in _ (by omega)
                    have q4 : ((k : Int) - 1).toNat = k - 1 := by omega
                    go_still_tail 14, (by kernel_rfl)
                    clear q0 q1 q2 q3 q4
                    go_wp2_with (go_at_call 37; refine (spec_before _ z y).mono ?_; rw [HZ.out]; rintro e w4 ⟨rfl, hb⟩; have HB3 := Aside0.mk (bel_call (below_drew HB2.out) hb); have HA3 := Aside0.mk (blk_below (blk_drew HA2.out) hb); clear hb)
                    go_roundg (x.rs.length + 1 - (k + 1))
                    case measure => omega
                    case rel => exact ⟨k + 1, rfl, hlt, by go_num, ⟨by rw [HS.out, HG2.out, HT.out, HY.out, HZ.out]; rfl⟩, HA3, HB3⟩
                  | false =>
                    have HZ := Aside0.mk hlt2; clear hlt2
                    have q0 : (k : Int) - 1 < (x.rs.length : Int) := by omega
                    have q1 : (0 : Int) ≤ (k : Int) - 1 := by omega
                    have q2 : (1 : Int) ≤ (k : Int) := by omega
                    have q3 : IntKind.i64.wrap ((k : Int) - 1) = (k : Int) - 1 := IntWalk.i64_in _ (by omega)
                    have q4 : ((k : Int) - 1).toNat = k - 1 := by omega
                    go_still_tail 14, (by kernel_rfl)
                    clear q0 q1 q2 q3 q4
                    go_wp2_with (go_at_call 37; refine (spec_before _ z y).mono ?_; rw [HZ.out]; rintro e w4 ⟨rfl, hb⟩; have HB3 := Aside0.mk (bel_call (below_drew HB2.out) hb); have HA3 := Aside0.mk (blk_below (blk_drew HA2.out) hb); clear hb)
                    go_ret
                    exact ⟨by rw [HV.out (by simp [HT.out, HY.out, HZ.out])]; rfl, HB3.out⟩
                | false =>
                  have HY := Aside0.mk hgood; clear hgood
                  go_wp2_with fail
                  go_region_held3 (fun w' => w'.cell? ⟨w.heap.size, 0, none⟩ = some (.slice A0 x.vs.length c0) ∧ w'.cell? ⟨w.heap.size, 1, none⟩ = some (.slice A1 x.qs.length c1) ∧ w'.cell? ⟨w.heap.size, 2, none⟩ = some (.slice (some ad) x.rs.length c2) ∧ w'.cell? (ad.add (k * 3)) = some (.int .i64 y.a) ∧ w'.cell? ⟨(ad.add (k * 3)).block, (ad.add (k * 3)).off + (0 + 1), none⟩ = some (.int .i64 y.b) ∧ w'.cell? ⟨(ad.add (k * 3)).block, (ad.add (k * 3)).off + (1 + 1), none⟩ = some (.int .i64 y.t) ∧ Below wr.heap.size wr w')
                    (first | exact ⟨a1 0, a1 1, a1 2, d0, d1, d2, below_drew (Below.refl _ _)⟩ | exact keepC6 (by assumption) hb2 | exact keepC6 (by assumption) hb3)
                    (first | (go_at_call 36; refine (spec_nodes _ A0 A1 (some ad) x.vs.length x.qs.length x.rs.length c0 c1 c2 hlen0 hlen1).mono ?_; rintro e w2 ⟨rfl, hb2⟩) | (go_at_call 35; refine (spec_goodRoad _ y x.nodes HN.out.1 HN.out.2).mono ?_; rw [HY.out]; rintro e w3 ⟨rfl, hb3⟩))
                  rename_i hH
                  replace d0 := pw_cell_below hH.2.2.2.2.2.2 d0
                  replace d1 := pw_cell_below hH.2.2.2.2.2.2 d1
                  replace d2 := pw_cell_below hH.2.2.2.2.2.2 d2
                  replace e0 := pw_cell_below hH.2.2.2.2.2.2 e0
                  replace e1 := pw_cell_below hH.2.2.2.2.2.2 e1
                  replace e2 := pw_cell_below hH.2.2.2.2.2.2 e2
                  have HB2 := Aside0.mk (bel_call HB.out hH.2.2.2.2.2.2); have HA2 := Aside0.mk (blk_below HA.out hH.2.2.2.2.2.2); clear hH
                  obtain ⟨b1, b2⟩ := lay (Below.refl _ _) HA2.out
                  go_wp2_with fail
                  go_ret
                  exact ⟨by rw [HV.out (by simp [HT.out, HY.out])]; rfl, HB2.out⟩
            · have hkk : k = x.rs.length := by omega
              have HK2 := Aside0.mk (hkk ▸ HG2.out : allI x.rs.length (roadAt x.nodes x.rs) = true); clear hkk HG2
              go_wp2
              go_ret
              exact ⟨by rw [show x.valid = true by unfold Inst.valid; rw [HF.out, HK0.out, HK1.out, HK2.out]; rfl]; rfl, HB.out⟩
end
end Go.Proofs.YteefopaoodfapaaDoor.L1
