/- ValidInst of the reference and of the program answer Inst.valid. impl.ValidInst answers Inst.valid. What comes in is opened: a struct of whole numbers, a row of them. The law FnExactValidInst: what came in is opened, and the law's own walk. The text of an instance, plain: decimal numerals, tags, lines. -/
import Derived.Test.YtbccaabaplbmhaaGreatDoorQT4
import Derived.Test.YtbccaabaplbmhaaGreatDoorQT2
import Derived.Deep.Slices
import Derived.Deep.Strs
import Derived.Lib.SmallJoins
import Derived.Test.YtbccaabaplbmhaaGreatDoorQT3
import Derived.Lib.ItoaNum
namespace Go.Proofs.YtbccaabaplbmhaaGreatDoor.L1
open Go.RowKit Go.Proofs.YtbccaabaplbmhaaGreatDoorW.PrintWords Go.Proofs.YtbccaabaplbmhaaGreatDoor.B
set_option linter.unusedVariables false
set_option linter.unusedSimpArgs false
attribute [local go_sem] mk_cell mk_frozen
theorem Inst.valid_few {x : Inst} (h : x.few = false) : x.valid = false := by simp [Inst.valid, h]
theorem Inst.valid_vs {x : Inst} {k : Nat} (hk : k < x.vs.length) (h : (x.vs.getD k zV).good = false) : x.valid = false := by unfold Inst.valid; rw [allI_false (f := fun k => (x.vs.getD k zV).good) hk h]; simp
theorem Inst.valid_qs {x : Inst} {k : Nat} (hk : k < x.qs.length) (h : (x.qs.getD k zQ).good = false) : x.valid = false := by unfold Inst.valid; rw [allI_false (f := fun k => (x.qs.getD k zQ).good) hk h]; simp
theorem Inst.valid_rs {x : Inst} {k : Nat} (hk : k < x.rs.length) (h : roadAt x.nodes x.rs k = false) : x.valid = false := by unfold Inst.valid; rw [allI_false (f := roadAt x.nodes x.rs) hk h]; simp
theorem nodes_bd (x : Inst) (f0 : x.vs.length ≤ 64) (f1 : x.qs.length ≤ 1000) : 0 ≤ x.nodes ∧ x.nodes ≤ 100000000 := by unfold Inst.nodes; omega
section
variable (w : World)
set_option maxRecDepth 100000 in
set_option maxHeartbeats 2000000 in
theorem spec_validInst (v : Value) (x : Inst) (hr : ReadInst w v x) : Calls Tryz.prog 5 #[v] w fun e w' => e = .returned (.bool x.valid) ∧ Below w.heap.size w w' := by
  obtain ⟨A0, c0, A1, c1, A2, c2, rfl, r0, r1, r2⟩ := hr
  have m0 := r0.2.1; have m1 := r1.2.1; have m2 := r2.2.1
  have HR := Aside0.mk (And.intro r0 (And.intro r1 r2)); clear r0 r1 r2
  rcases Nat.lt_or_ge 64 x.vs.length with f0 | f0
  · have g0 : decide ((64 : Int) < (x.vs.length : Int)) = true := by simp; omega
    go_enter Tryz.func5, Tryz.ntmps5
    go_wp2
    go_ret
    exact ⟨by rw [Inst.valid_few (by unfold Inst.few; simp; omega)]; rfl, below_alloc (Below.refl _ _) _⟩
  have g0 : decide ((64 : Int) < (x.vs.length : Int)) = false := by simp; omega
  rcases Nat.lt_or_ge 1000 x.qs.length with f1 | f1
  · have g1 : decide ((1000 : Int) < (x.qs.length : Int)) = true := by simp; omega
    go_enter Tryz.func5, Tryz.ntmps5
    go_wp2
    go_ret
    exact ⟨by rw [Inst.valid_few (by unfold Inst.few; simp; omega)]; rfl, below_alloc (Below.refl _ _) _⟩
  have g1 : decide ((1000 : Int) < (x.qs.length : Int)) = false := by simp; omega
  rcases Nat.lt_or_ge 4000 x.rs.length with f2 | f2
  · have g2 : decide ((4000 : Int) < (x.rs.length : Int)) = true := by simp; omega
    go_enter Tryz.func5, Tryz.ntmps5
    go_wp2
    go_ret
    exact ⟨by rw [Inst.valid_few (by unfold Inst.few; simp; omega)]; rfl, below_alloc (Below.refl _ _) _⟩
  have g2 : decide ((4000 : Int) < (x.rs.length : Int)) = false := by simp; omega
  have HF := Aside0.mk (show x.few = true by unfold Inst.few; simp; omega)
  go_enter Tryz.func5, Tryz.ntmps5
  go_wp2_with fail
  have HB := Aside0.mk (below_alloc (Below.refl w.heap.size w) (.cells #[.slice A0 x.vs.length c0, .slice A1 x.qs.length c1, .slice A2 x.rs.length c2] 27))
  have HA := Aside0.mk (al_new w (.cells #[.slice A0 x.vs.length c0, .slice A1 x.qs.length c1, .slice A2 x.rs.length c2] 27))
  go_loopg [3] (x.vs.length + 1) (fun q v wr => ∃ k, q = x.vs.length + 1 - k ∧ k ≤ x.vs.length ∧ v = .int .i64 k ∧ Aside0 (allI k (fun k => (x.vs.getD k zV).good) = true) ∧ Aside0 (wr.heap[w.heap.size]? = some (.cells #[.slice A0 x.vs.length c0, .slice A1 x.qs.length c1, .slice A2 x.rs.length c2] 27 (0, 0))) ∧ Aside0 (Below w.heap.size w wr))
  case atStart => exact ⟨0, by omega, by omega, rfl, ⟨rfl⟩, HA, HB⟩
  case round =>
    clear HA HB
    obtain ⟨k, rfl, hk, rfl, HG0, HA, HB⟩ := hrel
    obtain ⟨a1, a2⟩ := lay (Below.refl _ _) HA.out
    by_cases hlt : k < x.vs.length
    · obtain ⟨ad, e0, h0, h1⟩ := Kd.flat_cells (d := kVeh) rfl (Kd.C_below HR.out.1 HB.out) zV k hlt
      cases e0
      have hs := allI_succ k (fun k => (x.vs.getD k zV).good)
      have hv := @Inst.valid_vs x k hlt
      generalize x.vs.getD k zV = y at h0 h1 hs hv
      have HS := Aside0.mk hs; have HV := Aside0.mk hv; clear hs hv
      have d0 := h0 _ rfl; have d1 := h1 0 _ rfl; have d2 := h1 1 _ rfl; have d3 := h1 2 _ rfl; have d4 := h1 3 _ rfl; have d5 := h1 4 _ rfl; have d6 := h1 5 _ rfl
      clear h0 h1
      cases hgood : y.good with
      | true =>
        have HY := Aside0.mk hgood; clear hgood
        go_wp2_with (first | (go_at_call 13; refine (spec_goodVeh _ y).mono ?_; rw [HY.out]; rintro e w2 ⟨rfl, hb⟩; have HB1 := Aside0.mk (bel_call HB.out hb); have HA1 := Aside0.mk (blk_below HA.out hb); clear hb))
        go_roundg (x.vs.length + 1 - (k + 1))
        case measure => omega
        case rel => exact ⟨k + 1, rfl, hlt, by go_num, ⟨by rw [HS.out, HG0.out, HY.out]; rfl⟩, HA1, HB1⟩
      | false =>
        have HY := Aside0.mk hgood; clear hgood
        go_wp2_with (first | (go_at_call 13; refine (spec_goodVeh _ y).mono ?_; rw [HY.out]; rintro e w2 ⟨rfl, hb⟩; have HB1 := Aside0.mk (bel_call HB.out hb); have HA1 := Aside0.mk (blk_below HA.out hb); clear hb))
        go_ret
        exact ⟨by rw [HV.out HY.out]; rfl, HB1.out⟩
    · have hkk : k = x.vs.length := by omega
      have HK0 := Aside0.mk (hkk ▸ HG0.out : allI x.vs.length (fun k => (x.vs.getD k zV).good) = true); clear hkk HG0
      go_wp2_with fail
      clear a1 a2
      go_loopg [4] (x.qs.length + 1) (fun q v wr => ∃ k, q = x.qs.length + 1 - k ∧ k ≤ x.qs.length ∧ v = .int .i64 k ∧ Aside0 (allI k (fun k => (x.qs.getD k zQ).good) = true) ∧ Aside0 (wr.heap[w.heap.size]? = some (.cells #[.slice A0 x.vs.length c0, .slice A1 x.qs.length c1, .slice A2 x.rs.length c2] 27 (0, 0))) ∧ Aside0 (Below w.heap.size w wr))
      case atStart => exact ⟨0, by omega, by omega, rfl, ⟨rfl⟩, HA, HB⟩
      case round =>
        clear HA HB
        obtain ⟨k, rfl, hk, rfl, HG1, HA, HB⟩ := hrel
        obtain ⟨a1, a2⟩ := lay (Below.refl _ _) HA.out
        by_cases hlt : k < x.qs.length
        · obtain ⟨ad, e0, h0, h1⟩ := Kd.flat_cells (d := kReq) rfl (Kd.C_below HR.out.2.1 HB.out) zQ k hlt
          cases e0
          have hs := allI_succ k (fun k => (x.qs.getD k zQ).good)
          have hv := @Inst.valid_qs x k hlt
          generalize x.qs.getD k zQ = y at h0 h1 hs hv
          have HS := Aside0.mk hs; have HV := Aside0.mk hv; clear hs hv
          have d0 := h0 _ rfl; have d1 := h1 0 _ rfl; have d2 := h1 1 _ rfl; have d3 := h1 2 _ rfl; have d4 := h1 3 _ rfl; have d5 := h1 4 _ rfl; have d6 := h1 5 _ rfl; have d7 := h1 6 _ rfl; have d8 := h1 7 _ rfl; have d9 := h1 8 _ rfl; have d10 := h1 9 _ rfl; have d11 := h1 10 _ rfl
          clear h0 h1
          cases hgood : y.good with
          | true =>
            have HY := Aside0.mk hgood; clear hgood
            go_wp2_with (first | (go_at_call 14; refine (spec_goodReq _ y).mono ?_; rw [HY.out]; rintro e w2 ⟨rfl, hb⟩; have HB1 := Aside0.mk (bel_call HB.out hb); have HA1 := Aside0.mk (blk_below HA.out hb); clear hb))
            go_roundg (x.qs.length + 1 - (k + 1))
            case measure => omega
            case rel => exact ⟨k + 1, rfl, hlt, by go_num, ⟨by rw [HS.out, HG1.out, HY.out]; rfl⟩, HA1, HB1⟩
          | false =>
            have HY := Aside0.mk hgood; clear hgood
            go_wp2_with (first | (go_at_call 14; refine (spec_goodReq _ y).mono ?_; rw [HY.out]; rintro e w2 ⟨rfl, hb⟩; have HB1 := Aside0.mk (bel_call HB.out hb); have HA1 := Aside0.mk (blk_below HA.out hb); clear hb))
            go_ret
            exact ⟨by rw [HV.out HY.out]; rfl, HB1.out⟩
        · have hkk : k = x.qs.length := by omega
          have HK1 := Aside0.mk (hkk ▸ HG1.out : allI x.qs.length (fun k => (x.qs.getD k zQ).good) = true); clear hkk HG1
          go_wp2_with fail
          clear a1 a2
          go_loopg [5] (x.rs.length + 1) (fun q v wr => ∃ k, q = x.rs.length + 1 - k ∧ k ≤ x.rs.length ∧ v = .int .i64 k ∧ Aside0 (allI k (roadAt x.nodes x.rs) = true) ∧ Aside0 (wr.heap[w.heap.size]? = some (.cells #[.slice A0 x.vs.length c0, .slice A1 x.qs.length c1, .slice A2 x.rs.length c2] 27 (0, 0))) ∧ Aside0 (Below w.heap.size w wr))
          case atStart => exact ⟨0, by omega, by omega, rfl, ⟨rfl⟩, HA, HB⟩
          case round =>
            clear HA HB
            obtain ⟨k, rfl, hk, rfl, HG2, HA, HB⟩ := hrel
            obtain ⟨a1, a2⟩ := lay (Below.refl _ _) HA.out
            by_cases hlt : k < x.rs.length
            · obtain ⟨ad, e0, h0, h1⟩ := Kd.flat_cells (d := kRoad) rfl (Kd.C_below HR.out.2.2 HB.out) zR k hlt
              cases e0
              have hs := allI_succ k (roadAt x.nodes x.rs)
              have hv := @Inst.valid_rs x k hlt
              have HN := Aside0.mk (nodes_bd x f0 f1)
              rcases Nat.eq_zero_or_pos k with hk0 | hk0
              · -- the first road
                have hat : roadAt x.nodes x.rs k = (x.rs.getD k zR).good x.nodes := by simp [roadAt, hk0]
                have hd : decide ((0 : Int) < (k : Int)) = false := by simp; omega
                have hd' : decide (0 < k) = false := by simp; omega
                have HK0 := Aside0.mk hk0; clear hk0
                generalize x.rs.getD k zR = y at h0 h1 hat
                have HT := Aside0.mk hat; have HS := Aside0.mk hs; have HV := Aside0.mk hv; clear hat hs hv
                have d0 := h0 _ rfl; have d1 := h1 0 _ rfl; have d2 := h1 1 _ rfl
                have hlen0 : x.vs.length ≤ 1048576 := by omega
                have hlen1 : x.qs.length ≤ 1048576 := by omega
                cases hgood : y.good x.nodes with
                | true =>
                  have HY := Aside0.mk hgood; clear hgood
                  go_wp2_with fail
                  go_region_held3 (fun w' => w'.cell? ⟨w.heap.size, 0, none⟩ = some (.slice A0 x.vs.length c0) ∧ w'.cell? ⟨w.heap.size, 1, none⟩ = some (.slice A1 x.qs.length c1) ∧ w'.cell? ⟨w.heap.size, 2, none⟩ = some (.slice (some ad) x.rs.length c2) ∧ w'.cell? (ad.add (k * 3)) = some (.int .i64 y.a) ∧ w'.cell? ⟨(ad.add (k * 3)).block, (ad.add (k * 3)).off + (0 + 1), none⟩ = some (.int .i64 y.b) ∧ w'.cell? ⟨(ad.add (k * 3)).block, (ad.add (k * 3)).off + (1 + 1), none⟩ = some (.int .i64 y.t) ∧ Below wr.heap.size wr w')
                    (first | exact ⟨a1 0, a1 1, a1 2, d0, d1, d2, below_drew (Below.refl _ _)⟩ | exact keepC6 (by assumption) hb2 | exact keepC6 (by assumption) hb3)
                    (first | (go_at_call 16; refine (spec_nodes _ A0 A1 (some ad) x.vs.length x.qs.length x.rs.length c0 c1 c2 hlen0 hlen1).mono ?_; rintro e w2 ⟨rfl, hb2⟩) | (go_at_call 15; refine (spec_goodRoad _ y x.nodes HN.out.1 HN.out.2).mono ?_; rw [HY.out]; rintro e w3 ⟨rfl, hb3⟩))
                  rename_i hH
                  replace d0 := pw_cell_below hH.2.2.2.2.2.2 d0
                  replace d1 := pw_cell_below hH.2.2.2.2.2.2 d1
                  replace d2 := pw_cell_below hH.2.2.2.2.2.2 d2
                  have HB2 := Aside0.mk (bel_call HB.out hH.2.2.2.2.2.2); have HA2 := Aside0.mk (blk_below HA.out hH.2.2.2.2.2.2); clear hH
                  obtain ⟨b1, b2⟩ := lay (Below.refl _ _) HA2.out
                  go_wp2_with fail
                  go_quiet (fail)
                  clear b1 b2
                  go_wp2
                  go_roundg (x.rs.length + 1 - (k + 1))
                  case measure => omega
                  case rel => exact ⟨k + 1, rfl, hlt, by go_num, ⟨by rw [HS.out, HG2.out, HT.out, HY.out]; rfl⟩, HA2, ⟨pw_below_drewN HB2.out _⟩⟩
                | false =>
                  have HY := Aside0.mk hgood; clear hgood
                  go_wp2_with fail
                  go_region_held3 (fun w' => w'.cell? ⟨w.heap.size, 0, none⟩ = some (.slice A0 x.vs.length c0) ∧ w'.cell? ⟨w.heap.size, 1, none⟩ = some (.slice A1 x.qs.length c1) ∧ w'.cell? ⟨w.heap.size, 2, none⟩ = some (.slice (some ad) x.rs.length c2) ∧ w'.cell? (ad.add (k * 3)) = some (.int .i64 y.a) ∧ w'.cell? ⟨(ad.add (k * 3)).block, (ad.add (k * 3)).off + (0 + 1), none⟩ = some (.int .i64 y.b) ∧ w'.cell? ⟨(ad.add (k * 3)).block, (ad.add (k * 3)).off + (1 + 1), none⟩ = some (.int .i64 y.t) ∧ Below wr.heap.size wr w')
                    (first | exact ⟨a1 0, a1 1, a1 2, d0, d1, d2, below_drew (Below.refl _ _)⟩ | exact keepC6 (by assumption) hb2 | exact keepC6 (by assumption) hb3)
                    (first | (go_at_call 16; refine (spec_nodes _ A0 A1 (some ad) x.vs.length x.qs.length x.rs.length c0 c1 c2 hlen0 hlen1).mono ?_; rintro e w2 ⟨rfl, hb2⟩) | (go_at_call 15; refine (spec_goodRoad _ y x.nodes HN.out.1 HN.out.2).mono ?_; rw [HY.out]; rintro e w3 ⟨rfl, hb3⟩))
                  rename_i hH
                  replace d0 := pw_cell_below hH.2.2.2.2.2.2 d0
                  replace d1 := pw_cell_below hH.2.2.2.2.2.2 d1
                  replace d2 := pw_cell_below hH.2.2.2.2.2.2 d2
                  have HB2 := Aside0.mk (bel_call HB.out hH.2.2.2.2.2.2); have HA2 := Aside0.mk (blk_below HA.out hH.2.2.2.2.2.2); clear hH
                  obtain ⟨b1, b2⟩ := lay (Below.refl _ _) HA2.out
                  go_wp2_with fail
                  go_ret
                  exact ⟨by rw [HV.out (by simp [HT.out, HY.out])]; rfl, HB2.out⟩
              · -- a later road
                have hat : roadAt x.nodes x.rs k = ((x.rs.getD k zR).good x.nodes && (x.rs.getD (k - 1) zR).lt (x.rs.getD k zR)) := by simp [roadAt, Nat.ne_of_gt hk0]
                have hd : decide ((0 : Int) < (k : Int)) = true := by simp; omega
                have hd' : decide (0 < k) = true := by simp; omega
                obtain ⟨ad', e0', g0, g1⟩ := Kd.flat_cells (d := kRoad) rfl (Kd.C_below HR.out.2.2 HB.out) zR (k - 1) (by omega)
                cases e0'
                generalize x.rs.getD (k - 1) zR = z at g0 g1 hat
                generalize x.rs.getD k zR = y at h0 h1 hat
                have HT := Aside0.mk hat; have HS := Aside0.mk hs; have HV := Aside0.mk hv; clear hat hs hv
                have d0 := h0 _ rfl; have d1 := h1 0 _ rfl; have d2 := h1 1 _ rfl
                have e0 := g0 _ rfl; have e1 := g1 0 _ rfl; have e2 := g1 1 _ rfl
                have hlen0 : x.vs.length ≤ 1048576 := by omega
                have hlen1 : x.qs.length ≤ 1048576 := by omega
                cases hgood : y.good x.nodes with
                | true =>
                  have HY := Aside0.mk hgood; clear hgood
                  go_wp2_with fail
                  go_region_held3 (fun w' => w'.cell? ⟨w.heap.size, 0, none⟩ = some (.slice A0 x.vs.length c0) ∧ w'.cell? ⟨w.heap.size, 1, none⟩ = some (.slice A1 x.qs.length c1) ∧ w'.cell? ⟨w.heap.size, 2, none⟩ = some (.slice (some ad) x.rs.length c2) ∧ w'.cell? (ad.add (k * 3)) = some (.int .i64 y.a) ∧ w'.cell? ⟨(ad.add (k * 3)).block, (ad.add (k * 3)).off + (0 + 1), none⟩ = some (.int .i64 y.b) ∧ w'.cell? ⟨(ad.add (k * 3)).block, (ad.add (k * 3)).off + (1 + 1), none⟩ = some (.int .i64 y.t) ∧ Below wr.heap.size wr w')
                    (first | exact ⟨a1 0, a1 1, a1 2, d0, d1, d2, below_drew (Below.refl _ _)⟩ | exact keepC6 (by assumption) hb2 | exact keepC6 (by assumption) hb3)
                    (first | (go_at_call 16; refine (spec_nodes _ A0 A1 (some ad) x.vs.length x.qs.length x.rs.length c0 c1 c2 hlen0 hlen1).mono ?_; rintro e w2 ⟨rfl, hb2⟩) | (go_at_call 15; refine (spec_goodRoad _ y x.nodes HN.out.1 HN.out.2).mono ?_; rw [HY.out]; rintro e w3 ⟨rfl, hb3⟩))
                  rename_i hH
                  replace d0 := pw_cell_below hH.2.2.2.2.2.2 d0
                  replace d1 := pw_cell_below hH.2.2.2.2.2.2 d1
                  replace d2 := pw_cell_below hH.2.2.2.2.2.2 d2
                  replace e0 := pw_cell_below hH.2.2.2.2.2.2 e0
                  replace e1 := pw_cell_below hH.2.2.2.2.2.2 e1
                  replace e2 := pw_cell_below hH.2.2.2.2.2.2 e2
                  have HB2 := Aside0.mk (bel_call HB.out hH.2.2.2.2.2.2); have HA2 := Aside0.mk (blk_below HA.out hH.2.2.2.2.2.2); clear hH
                  obtain ⟨b1, b2⟩ := lay (Below.refl _ _) HA2.out
                  go_wp2_with fail
                  cases hlt2 : z.lt y with
                  | true =>
                    have HZ := Aside0.mk hlt2; clear hlt2
                    have q0 : (k : Int) - 1 < (x.rs.length : Int) := by omega
                    have q1 : (0 : Int) ≤ (k : Int) - 1 := by omega
                    have q2 : (1 : Int) ≤ (k : Int) := by omega
                    have q3 : IntKind.i64.wrap ((k : Int) - 1) = (k : Int) - 1 := IntWalk.i64_in _ (by omega)
                    have q4 : ((k : Int) - 1).toNat = k - 1 := by omega
                    go_still_tail 14, (by kernel_rfl)
                    clear q0 q1 q2 q3 q4
                    go_wp2_with (go_at_call 17; refine (spec_before _ z y).mono ?_; rw [HZ.out]; rintro e w4 ⟨rfl, hb⟩; have HB3 := Aside0.mk (bel_call (below_drew HB2.out) hb); have HA3 := Aside0.mk (blk_below (blk_drew HA2.out) hb); clear hb)
                    go_roundg (x.rs.length + 1 - (k + 1))
                    case measure => omega
                    case rel => exact ⟨k + 1, rfl, hlt, by go_num, ⟨by rw [HS.out, HG2.out, HT.out, HY.out, HZ.out]; rfl⟩, HA3, HB3⟩
                  | false =>
                    have HZ := Aside0.mk hlt2; clear hlt2
                    have q0 : (k : Int) - 1 < (x.rs.length : Int) := by omega
                    have q1 : (0 : Int) ≤ (k : Int) - 1 := by omega
                    have q2 : (1 : Int) ≤ (k : Int) := by omega
                    have q3 : IntKind.i64.wrap ((k : Int) - 1) = (k : Int) - 1 := IntWalk.i64_in _ (by omega)
                    have q4 : ((k : Int) - 1).toNat = k - 1 := by omega
                    go_still_tail 14, (by kernel_rfl)
                    clear q0 q1 q2 q3 q4
                    go_wp2_with (go_at_call 17; refine (spec_before _ z y).mono ?_; rw [HZ.out]; rintro e w4 ⟨rfl, hb⟩; have HB3 := Aside0.mk (bel_call (below_drew HB2.out) hb); have HA3 := Aside0.mk (blk_below (blk_drew HA2.out) hb); clear hb)
                    go_ret
                    exact ⟨by rw [HV.out (by simp [HT.out, HY.out, HZ.out])]; rfl, HB3.out⟩
                | false =>
                  have HY := Aside0.mk hgood; clear hgood
                  go_wp2_with fail
                  go_region_held3 (fun w' => w'.cell? ⟨w.heap.size, 0, none⟩ = some (.slice A0 x.vs.length c0) ∧ w'.cell? ⟨w.heap.size, 1, none⟩ = some (.slice A1 x.qs.length c1) ∧ w'.cell? ⟨w.heap.size, 2, none⟩ = some (.slice (some ad) x.rs.length c2) ∧ w'.cell? (ad.add (k * 3)) = some (.int .i64 y.a) ∧ w'.cell? ⟨(ad.add (k * 3)).block, (ad.add (k * 3)).off + (0 + 1), none⟩ = some (.int .i64 y.b) ∧ w'.cell? ⟨(ad.add (k * 3)).block, (ad.add (k * 3)).off + (1 + 1), none⟩ = some (.int .i64 y.t) ∧ Below wr.heap.size wr w')
                    (first | exact ⟨a1 0, a1 1, a1 2, d0, d1, d2, below_drew (Below.refl _ _)⟩ | exact keepC6 (by assumption) hb2 | exact keepC6 (by assumption) hb3)
                    (first | (go_at_call 16; refine (spec_nodes _ A0 A1 (some ad) x.vs.length x.qs.length x.rs.length c0 c1 c2 hlen0 hlen1).mono ?_; rintro e w2 ⟨rfl, hb2⟩) | (go_at_call 15; refine (spec_goodRoad _ y x.nodes HN.out.1 HN.out.2).mono ?_; rw [HY.out]; rintro e w3 ⟨rfl, hb3⟩))
                  rename_i hH
                  replace d0 := pw_cell_below hH.2.2.2.2.2.2 d0
                  replace d1 := pw_cell_below hH.2.2.2.2.2.2 d1
                  replace d2 := pw_cell_below hH.2.2.2.2.2.2 d2
                  replace e0 := pw_cell_below hH.2.2.2.2.2.2 e0
                  replace e1 := pw_cell_below hH.2.2.2.2.2.2 e1
                  replace e2 := pw_cell_below hH.2.2.2.2.2.2 e2
                  have HB2 := Aside0.mk (bel_call HB.out hH.2.2.2.2.2.2); have HA2 := Aside0.mk (blk_below HA.out hH.2.2.2.2.2.2); clear hH
                  obtain ⟨b1, b2⟩ := lay (Below.refl _ _) HA2.out
                  go_wp2_with fail
                  go_ret
                  exact ⟨by rw [HV.out (by simp [HT.out, HY.out])]; rfl, HB2.out⟩
            · have hkk : k = x.rs.length := by omega
              have HK2 := Aside0.mk (hkk ▸ HG2.out : allI x.rs.length (roadAt x.nodes x.rs) = true); clear hkk HG2
              go_wp2
              go_ret
              exact ⟨by rw [show x.valid = true by unfold Inst.valid; rw [HF.out, HK0.out, HK1.out, HK2.out]; rfl]; rfl, HB.out⟩
end
end Go.Proofs.YtbccaabaplbmhaaGreatDoor.L1
namespace Go.Proofs.YtbccaabaplbmhaaGreatDoor.L1
open Go.RowKit Go.Proofs.YtbccaabaplbmhaaGreatDoorW.PrintWords Go.Proofs.YtbccaabaplbmhaaGreatDoor.B
set_option linter.unusedVariables false
set_option linter.unusedSimpArgs false
attribute [local go_sem] mk_cell mk_frozen
section
variable (w : World)
set_option maxRecDepth 100000 in
set_option maxHeartbeats 2000000 in
theorem impl_validInst (v : Value) (x : Inst) (hr : ReadInst w v x) : Calls Tryz.prog 18 #[v] w fun e w' => e = .returned (.bool x.valid) ∧ Below w.heap.size w w' := by
  obtain ⟨A0, c0, A1, c1, A2, c2, rfl, r0, r1, r2⟩ := hr
  have m0 := r0.2.1; have m1 := r1.2.1; have m2 := r2.2.1
  have HR := Aside0.mk (And.intro r0 (And.intro r1 r2)); clear r0 r1 r2
  rcases Nat.lt_or_ge 64 x.vs.length with f0 | f0
  · have g0 : decide ((64 : Int) < (x.vs.length : Int)) = true := by simp; omega
    go_enter Tryz.func18, Tryz.ntmps18
    go_wp2
    go_ret
    exact ⟨by rw [Inst.valid_few (by unfold Inst.few; simp; omega)]; rfl, below_alloc (Below.refl _ _) _⟩
  have g0 : decide ((64 : Int) < (x.vs.length : Int)) = false := by simp; omega
  rcases Nat.lt_or_ge 1000 x.qs.length with f1 | f1
  · have g1 : decide ((1000 : Int) < (x.qs.length : Int)) = true := by simp; omega
    go_enter Tryz.func18, Tryz.ntmps18
    go_wp2
    go_ret
    exact ⟨by rw [Inst.valid_few (by unfold Inst.few; simp; omega)]; rfl, below_alloc (Below.refl _ _) _⟩
  have g1 : decide ((1000 : Int) < (x.qs.length : Int)) = false := by simp; omega
  rcases Nat.lt_or_ge 4000 x.rs.length with f2 | f2
  · have g2 : decide ((4000 : Int) < (x.rs.length : Int)) = true := by simp; omega
    go_enter Tryz.func18, Tryz.ntmps18
    go_wp2
    go_ret
    exact ⟨by rw [Inst.valid_few (by unfold Inst.few; simp; omega)]; rfl, below_alloc (Below.refl _ _) _⟩
  have g2 : decide ((4000 : Int) < (x.rs.length : Int)) = false := by simp; omega
  have HF := Aside0.mk (show x.few = true by unfold Inst.few; simp; omega)
  go_enter Tryz.func18, Tryz.ntmps18
  go_wp2_with fail
  have HB := Aside0.mk (below_alloc (Below.refl w.heap.size w) (.cells #[.slice A0 x.vs.length c0, .slice A1 x.qs.length c1, .slice A2 x.rs.length c2] 27))
  have HA := Aside0.mk (al_new w (.cells #[.slice A0 x.vs.length c0, .slice A1 x.qs.length c1, .slice A2 x.rs.length c2] 27))
  go_loopg [28] (x.vs.length + 1) (fun q v wr => ∃ k, q = x.vs.length + 1 - k ∧ k ≤ x.vs.length ∧ v = .int .i64 k ∧ Aside0 (allI k (fun k => (x.vs.getD k zV).good) = true) ∧ Aside0 (wr.heap[w.heap.size]? = some (.cells #[.slice A0 x.vs.length c0, .slice A1 x.qs.length c1, .slice A2 x.rs.length c2] 27 (0, 0))) ∧ Aside0 (Below w.heap.size w wr))
  case atStart => exact ⟨0, by omega, by omega, rfl, ⟨rfl⟩, HA, HB⟩
  case round =>
    clear HA HB
    obtain ⟨k, rfl, hk, rfl, HG0, HA, HB⟩ := hrel
    obtain ⟨a1, a2⟩ := lay (Below.refl _ _) HA.out
    by_cases hlt : k < x.vs.length
    · obtain ⟨ad, e0, h0, h1⟩ := Kd.flat_cells (d := kVeh) rfl (Kd.C_below HR.out.1 HB.out) zV k hlt
      cases e0
      have hs := allI_succ k (fun k => (x.vs.getD k zV).good)
      have hv := @Inst.valid_vs x k hlt
      generalize x.vs.getD k zV = y at h0 h1 hs hv
      have HS := Aside0.mk hs; have HV := Aside0.mk hv; clear hs hv
      have d0 := h0 _ rfl; have d1 := h1 0 _ rfl; have d2 := h1 1 _ rfl; have d3 := h1 2 _ rfl; have d4 := h1 3 _ rfl; have d5 := h1 4 _ rfl; have d6 := h1 5 _ rfl
      clear h0 h1
      cases hgood : y.good with
      | true =>
        have HY := Aside0.mk hgood; clear hgood
        go_wp2_with (first | (go_at_call 37; refine (impl_goodVeh _ y).mono ?_; rw [HY.out]; rintro e w2 ⟨rfl, hb⟩; have HB1 := Aside0.mk (bel_call (bel_box HB.out _) hb); have HA1 := Aside0.mk (blk_below (blk_box HA.out _) hb); clear hb))
        go_roundg (x.vs.length + 1 - (k + 1))
        case measure => omega
        case rel => exact ⟨k + 1, rfl, hlt, by go_num, ⟨by rw [HS.out, HG0.out, HY.out]; rfl⟩, HA1, HB1⟩
      | false =>
        have HY := Aside0.mk hgood; clear hgood
        go_wp2_with (first | (go_at_call 37; refine (impl_goodVeh _ y).mono ?_; rw [HY.out]; rintro e w2 ⟨rfl, hb⟩; have HB1 := Aside0.mk (bel_call (bel_box HB.out _) hb); have HA1 := Aside0.mk (blk_below (blk_box HA.out _) hb); clear hb))
        go_ret
        exact ⟨by rw [HV.out HY.out]; rfl, HB1.out⟩
    · have hkk : k = x.vs.length := by omega
      have HK0 := Aside0.mk (hkk ▸ HG0.out : allI x.vs.length (fun k => (x.vs.getD k zV).good) = true); clear hkk HG0
      go_wp2_with fail
      clear a1 a2
      go_loopg [39] (x.qs.length + 1) (fun q v wr => ∃ k, q = x.qs.length + 1 - k ∧ k ≤ x.qs.length ∧ v = .int .i64 k ∧ Aside0 (allI k (fun k => (x.qs.getD k zQ).good) = true) ∧ Aside0 (wr.heap[w.heap.size]? = some (.cells #[.slice A0 x.vs.length c0, .slice A1 x.qs.length c1, .slice A2 x.rs.length c2] 27 (0, 0))) ∧ Aside0 (Below w.heap.size w wr))
      case atStart => exact ⟨0, by omega, by omega, rfl, ⟨rfl⟩, HA, HB⟩
      case round =>
        clear HA HB
        obtain ⟨k, rfl, hk, rfl, HG1, HA, HB⟩ := hrel
        obtain ⟨a1, a2⟩ := lay (Below.refl _ _) HA.out
        by_cases hlt : k < x.qs.length
        · obtain ⟨ad, e0, h0, h1⟩ := Kd.flat_cells (d := kReq) rfl (Kd.C_below HR.out.2.1 HB.out) zQ k hlt
          cases e0
          have hs := allI_succ k (fun k => (x.qs.getD k zQ).good)
          have hv := @Inst.valid_qs x k hlt
          generalize x.qs.getD k zQ = y at h0 h1 hs hv
          have HS := Aside0.mk hs; have HV := Aside0.mk hv; clear hs hv
          have d0 := h0 _ rfl; have d1 := h1 0 _ rfl; have d2 := h1 1 _ rfl; have d3 := h1 2 _ rfl; have d4 := h1 3 _ rfl; have d5 := h1 4 _ rfl; have d6 := h1 5 _ rfl; have d7 := h1 6 _ rfl; have d8 := h1 7 _ rfl; have d9 := h1 8 _ rfl; have d10 := h1 9 _ rfl; have d11 := h1 10 _ rfl
          clear h0 h1
          cases hgood : y.good with
          | true =>
            have HY := Aside0.mk hgood; clear hgood
            go_wp2_with (first | (go_at_call 38; refine (impl_goodReq _ y).mono ?_; rw [HY.out]; rintro e w2 ⟨rfl, hb⟩; have HB1 := Aside0.mk (bel_call (bel_box HB.out _) hb); have HA1 := Aside0.mk (blk_below (blk_box HA.out _) hb); clear hb))
            go_roundg (x.qs.length + 1 - (k + 1))
            case measure => omega
            case rel => exact ⟨k + 1, rfl, hlt, by go_num, ⟨by rw [HS.out, HG1.out, HY.out]; rfl⟩, HA1, HB1⟩
          | false =>
            have HY := Aside0.mk hgood; clear hgood
            go_wp2_with (first | (go_at_call 38; refine (impl_goodReq _ y).mono ?_; rw [HY.out]; rintro e w2 ⟨rfl, hb⟩; have HB1 := Aside0.mk (bel_call (bel_box HB.out _) hb); have HA1 := Aside0.mk (blk_below (blk_box HA.out _) hb); clear hb))
            go_ret
            exact ⟨by rw [HV.out HY.out]; rfl, HB1.out⟩
        · have hkk : k = x.qs.length := by omega
          have HK1 := Aside0.mk (hkk ▸ HG1.out : allI x.qs.length (fun k => (x.qs.getD k zQ).good) = true); clear hkk HG1
          go_wp2_with fail
          clear a1 a2
          go_loopg [50] (x.rs.length + 1) (fun q v wr => ∃ k, q = x.rs.length + 1 - k ∧ k ≤ x.rs.length ∧ v = .int .i64 k ∧ Aside0 (allI k (roadAt x.nodes x.rs) = true) ∧ Aside0 (wr.heap[w.heap.size]? = some (.cells #[.slice A0 x.vs.length c0, .slice A1 x.qs.length c1, .slice A2 x.rs.length c2] 27 (0, 0))) ∧ Aside0 (Below w.heap.size w wr))
          case atStart => exact ⟨0, by omega, by omega, rfl, ⟨rfl⟩, HA, HB⟩
          case round =>
            clear HA HB
            obtain ⟨k, rfl, hk, rfl, HG2, HA, HB⟩ := hrel
            obtain ⟨a1, a2⟩ := lay (Below.refl _ _) HA.out
            by_cases hlt : k < x.rs.length
            · obtain ⟨ad, e0, h0, h1⟩ := Kd.flat_cells (d := kRoad) rfl (Kd.C_below HR.out.2.2 HB.out) zR k hlt
              cases e0
              have hs := allI_succ k (roadAt x.nodes x.rs)
              have hv := @Inst.valid_rs x k hlt
              have HN := Aside0.mk (nodes_bd x f0 f1)
              rcases Nat.eq_zero_or_pos k with hk0 | hk0
              · -- the first road
                have hat : roadAt x.nodes x.rs k = (x.rs.getD k zR).good x.nodes := by simp [roadAt, hk0]
                have hd : decide ((0 : Int) < (k : Int)) = false := by simp; omega
                have hd' : decide (0 < k) = false := by simp; omega
                have HK0 := Aside0.mk hk0; clear hk0
                generalize x.rs.getD k zR = y at h0 h1 hat
                have HT := Aside0.mk hat; have HS := Aside0.mk hs; have HV := Aside0.mk hv; clear hat hs hv
                have d0 := h0 _ rfl; have d1 := h1 0 _ rfl; have d2 := h1 1 _ rfl
                have hlen0 : x.vs.length ≤ 1048576 := by omega
                have hlen1 : x.qs.length ≤ 1048576 := by omega
                cases hgood : y.good x.nodes with
                | true =>
                  have HY := Aside0.mk hgood; clear hgood
                  go_wp2_with fail
                  have b0 := blk_cell (blk_box HA.out (.cells #[.int .i64 y.a, .int .i64 y.b, .int .i64 y.t] 51)) 0; have b1 := blk_cell (blk_box HA.out (.cells #[.int .i64 y.a, .int .i64 y.b, .int .i64 y.t] 51)) 1; have b2 := blk_cell (blk_box HA.out (.cells #[.int .i64 y.a, .int .i64 y.b, .int .i64 y.t] 51)) 2
                  have r0 := blk_cell (al_new wr (.cells #[.int .i64 y.a, .int .i64 y.b, .int .i64 y.t] 51)) 0; have r1 := blk_cell (al_new wr (.cells #[.int .i64 y.a, .int .i64 y.b, .int .i64 y.t] 51)) 1; have r2 := blk_cell (al_new wr (.cells #[.int .i64 y.a, .int .i64 y.b, .int .i64 y.t] 51)) 2
                  clear a1 a2 d0 d1 d2 h0 h1
                  simp only [List.getElem?_toArray, List.getElem?_cons_zero, List.getElem?_cons_succ] at b0 b1 b2 r0 r1 r2
                  refine Grow.wp_region_growB (by kernel_rfl) (by kernel_rfl) ?_
                  repeat ((first | (refine Grow.lex_skip (by rfl) ?_) | (refine Grow.lex_do _ (by rfl) (by intro W hj; have t0 := pw_cell_below hj.out b0; have t1 := pw_cell_below hj.out b1; have t2 := pw_cell_below hj.out b2; have t3 := pw_cell_below hj.out r0; have t4 := pw_cell_below hj.out r1; have t5 := pw_cell_below hj.out r2; go_simp; first | exact Grow.Upon.val hj | exact Grow.Upon.callB hj (impl_nodes W A0 A1 (some ad) x.vs.length x.qs.length x.rs.length c0 c1 c2 hlen0 hlen1) | (have c := impl_goodRoad W y x.nodes HN.out.1 HN.out.2; rw [HY.out] at c; exact Grow.Upon.callB hj c)) ?_)); refine Grow.lex_norm (fun K hK => ?_); go_simp; refine hK _ ?_; clear hK K)
                  refine Grow.lex_nil (fun W hj => ?_)
                  have HB2 := Aside0.mk (bel_call (bel_box HB.out (.cells #[.int .i64 y.a, .int .i64 y.b, .int .i64 y.t] 51)) hj.out); have HA2 := Aside0.mk (blk_below (blk_box HA.out (.cells #[.int .i64 y.a, .int .i64 y.b, .int .i64 y.t] 51)) hj.out); clear hj b0 b1 b2 r0 r1 r2
                  go_wp2
                  go_roundg (x.rs.length + 1 - (k + 1))
                  case measure => omega
                  case rel => exact ⟨k + 1, rfl, hlt, by go_num, ⟨by rw [HS.out, HG2.out, HT.out, HY.out]; rfl⟩, HA2, HB2⟩
                | false =>
                  have HY := Aside0.mk hgood; clear hgood
                  go_wp2_with fail
                  have b0 := blk_cell (blk_box HA.out (.cells #[.int .i64 y.a, .int .i64 y.b, .int .i64 y.t] 51)) 0; have b1 := blk_cell (blk_box HA.out (.cells #[.int .i64 y.a, .int .i64 y.b, .int .i64 y.t] 51)) 1; have b2 := blk_cell (blk_box HA.out (.cells #[.int .i64 y.a, .int .i64 y.b, .int .i64 y.t] 51)) 2
                  have r0 := blk_cell (al_new wr (.cells #[.int .i64 y.a, .int .i64 y.b, .int .i64 y.t] 51)) 0; have r1 := blk_cell (al_new wr (.cells #[.int .i64 y.a, .int .i64 y.b, .int .i64 y.t] 51)) 1; have r2 := blk_cell (al_new wr (.cells #[.int .i64 y.a, .int .i64 y.b, .int .i64 y.t] 51)) 2
                  clear a1 a2 d0 d1 d2 h0 h1
                  simp only [List.getElem?_toArray, List.getElem?_cons_zero, List.getElem?_cons_succ] at b0 b1 b2 r0 r1 r2
                  refine Grow.wp_region_growB (by kernel_rfl) (by kernel_rfl) ?_
                  repeat ((first | (refine Grow.lex_skip (by rfl) ?_) | (refine Grow.lex_do _ (by rfl) (by intro W hj; have t0 := pw_cell_below hj.out b0; have t1 := pw_cell_below hj.out b1; have t2 := pw_cell_below hj.out b2; have t3 := pw_cell_below hj.out r0; have t4 := pw_cell_below hj.out r1; have t5 := pw_cell_below hj.out r2; go_simp; first | exact Grow.Upon.val hj | exact Grow.Upon.callB hj (impl_nodes W A0 A1 (some ad) x.vs.length x.qs.length x.rs.length c0 c1 c2 hlen0 hlen1) | (have c := impl_goodRoad W y x.nodes HN.out.1 HN.out.2; rw [HY.out] at c; exact Grow.Upon.callB hj c)) ?_)); refine Grow.lex_norm (fun K hK => ?_); go_simp; refine hK _ ?_; clear hK K)
                  refine Grow.lex_nil (fun W hj => ?_)
                  have HB2 := Aside0.mk (bel_call (bel_box HB.out (.cells #[.int .i64 y.a, .int .i64 y.b, .int .i64 y.t] 51)) hj.out); have HA2 := Aside0.mk (blk_below (blk_box HA.out (.cells #[.int .i64 y.a, .int .i64 y.b, .int .i64 y.t] 51)) hj.out); clear hj b0 b1 b2 r0 r1 r2
                  go_wp2
                  go_ret
                  exact ⟨by rw [HV.out (by simp [HT.out, HY.out])]; rfl, HB2.out⟩
              · -- a later road
                have hat : roadAt x.nodes x.rs k = ((x.rs.getD k zR).good x.nodes && (x.rs.getD (k - 1) zR).lt (x.rs.getD k zR)) := by simp [roadAt, Nat.ne_of_gt hk0]
                have hd : decide ((0 : Int) < (k : Int)) = true := by simp; omega
                have hd' : decide (0 < k) = true := by simp; omega
                obtain ⟨ad', e0', g0, g1⟩ := Kd.flat_cells (d := kRoad) rfl (Kd.C_below HR.out.2.2 HB.out) zR (k - 1) (by omega)
                cases e0'
                generalize x.rs.getD (k - 1) zR = z at g0 g1 hat
                generalize x.rs.getD k zR = y at h0 h1 hat
                have HT := Aside0.mk hat; have HS := Aside0.mk hs; have HV := Aside0.mk hv; clear hat hs hv
                have d0 := h0 _ rfl; have d1 := h1 0 _ rfl; have d2 := h1 1 _ rfl
                have e0 := g0 _ rfl; have e1 := g1 0 _ rfl; have e2 := g1 1 _ rfl
                have hlen0 : x.vs.length ≤ 1048576 := by omega
                have hlen1 : x.qs.length ≤ 1048576 := by omega
                have q0 : (k : Int) - 1 < (x.rs.length : Int) := by omega
                have q1 : (0 : Int) ≤ (k : Int) - 1 := by omega
                have q2 : (1 : Int) ≤ (k : Int) := by omega
                have q3 : IntKind.i64.wrap ((k : Int) - 1) = (k : Int) - 1 := IntWalk.i64_in _ (by omega)
                have q4 : ((k : Int) - 1).toNat = k - 1 := by omega
                have hcmp := Road.cmp_neg z y
                obtain ⟨c, hc⟩ : ∃ c, z.cmp y = c := ⟨_, rfl⟩
                rw [hc] at hcmp
                have HC := Aside0.mk hc; have HM := Aside0.mk hcmp; clear hc hcmp
                cases hgood : y.good x.nodes with
                | true =>
                  have HY := Aside0.mk hgood; clear hgood
                  go_wp2_with fail
                  have b0 := blk_cell (blk_box HA.out (.cells #[.int .i64 y.a, .int .i64 y.b, .int .i64 y.t] 51)) 0; have b1 := blk_cell (blk_box HA.out (.cells #[.int .i64 y.a, .int .i64 y.b, .int .i64 y.t] 51)) 1; have b2 := blk_cell (blk_box HA.out (.cells #[.int .i64 y.a, .int .i64 y.b, .int .i64 y.t] 51)) 2
                  have r0 := blk_cell (al_new wr (.cells #[.int .i64 y.a, .int .i64 y.b, .int .i64 y.t] 51)) 0; have r1 := blk_cell (al_new wr (.cells #[.int .i64 y.a, .int .i64 y.b, .int .i64 y.t] 51)) 1; have r2 := blk_cell (al_new wr (.cells #[.int .i64 y.a, .int .i64 y.b, .int .i64 y.t] 51)) 2
                  have s0 := pw_cell_below (below_alloc (Below.refl wr.heap.size wr) (.cells #[.int .i64 y.a, .int .i64 y.b, .int .i64 y.t] 51)) e0; have s1 := pw_cell_below (below_alloc (Below.refl wr.heap.size wr) (.cells #[.int .i64 y.a, .int .i64 y.b, .int .i64 y.t] 51)) e1; have s2 := pw_cell_below (below_alloc (Below.refl wr.heap.size wr) (.cells #[.int .i64 y.a, .int .i64 y.b, .int .i64 y.t] 51)) e2
                  clear a1 a2 d0 d1 d2 h0 h1
                  simp only [List.getElem?_toArray, List.getElem?_cons_zero, List.getElem?_cons_succ] at b0 b1 b2 r0 r1 r2
                  refine Grow.wp_region_growB (by kernel_rfl) (by kernel_rfl) ?_
                  rcases Int.lt_or_le c 0 with hc0 | hc0
                  · have hz : z.lt y = true := HM.out.1 hc0
                    have hcd : decide (0 ≤ c) = false := by simp; omega
                    have HZ := Aside0.mk hz; clear hz
                    repeat ((first | (refine Grow.lex_skip (by rfl) ?_) | (refine Grow.lex_do _ (by rfl) (by intro W hj; have t0 := pw_cell_below hj.out b0; have t1 := pw_cell_below hj.out b1; have t2 := pw_cell_below hj.out b2; have t3 := pw_cell_below hj.out r0; have t4 := pw_cell_below hj.out r1; have t5 := pw_cell_below hj.out r2; have t6 := pw_cell_below hj.out s0; have t7 := pw_cell_below hj.out s1; have t8 := pw_cell_below hj.out s2; go_simp; first | exact Grow.Upon.val hj | exact Grow.Upon.callB hj (impl_nodes W A0 A1 (some ad) x.vs.length x.qs.length x.rs.length c0 c1 c2 hlen0 hlen1) | (have c := impl_goodRoad W y x.nodes HN.out.1 HN.out.2; rw [HY.out] at c; exact Grow.Upon.callB hj c) | (have c := impl_compare W z y; rw [HC.out] at c; exact Grow.Upon.callB hj c)) ?_)); refine Grow.lex_norm (fun K hK => ?_); go_simp; refine hK _ ?_; clear hK K)
                    refine Grow.lex_nil (fun W hj => ?_)
                    have HB2 := Aside0.mk (bel_call (bel_box HB.out (.cells #[.int .i64 y.a, .int .i64 y.b, .int .i64 y.t] 51)) hj.out); have HA2 := Aside0.mk (blk_below (blk_box HA.out (.cells #[.int .i64 y.a, .int .i64 y.b, .int .i64 y.t] 51)) hj.out); clear hj b0 b1 b2 r0 r1 r2 s0 s1 s2 q0 q1 q2 q3 q4
                    go_wp2
                    go_roundg (x.rs.length + 1 - (k + 1))
                    case measure => omega
                    case rel => exact ⟨k + 1, rfl, hlt, by go_num, ⟨by rw [HS.out, HG2.out, HT.out, HY.out, HZ.out]; rfl⟩, HA2, HB2⟩
                  · have hz : z.lt y = false := by cases hh : z.lt y with | false => rfl | true => exact absurd (HM.out.2 hh) (by omega)
                    have hcd : decide (0 ≤ c) = true := by simp; omega
                    have HZ := Aside0.mk hz; clear hz
                    repeat ((first | (refine Grow.lex_skip (by rfl) ?_) | (refine Grow.lex_do _ (by rfl) (by intro W hj; have t0 := pw_cell_below hj.out b0; have t1 := pw_cell_below hj.out b1; have t2 := pw_cell_below hj.out b2; have t3 := pw_cell_below hj.out r0; have t4 := pw_cell_below hj.out r1; have t5 := pw_cell_below hj.out r2; have t6 := pw_cell_below hj.out s0; have t7 := pw_cell_below hj.out s1; have t8 := pw_cell_below hj.out s2; go_simp; first | exact Grow.Upon.val hj | exact Grow.Upon.callB hj (impl_nodes W A0 A1 (some ad) x.vs.length x.qs.length x.rs.length c0 c1 c2 hlen0 hlen1) | (have c := impl_goodRoad W y x.nodes HN.out.1 HN.out.2; rw [HY.out] at c; exact Grow.Upon.callB hj c) | (have c := impl_compare W z y; rw [HC.out] at c; exact Grow.Upon.callB hj c)) ?_)); refine Grow.lex_norm (fun K hK => ?_); go_simp; refine hK _ ?_; clear hK K)
                    refine Grow.lex_nil (fun W hj => ?_)
                    have HB2 := Aside0.mk (bel_call (bel_box HB.out (.cells #[.int .i64 y.a, .int .i64 y.b, .int .i64 y.t] 51)) hj.out); have HA2 := Aside0.mk (blk_below (blk_box HA.out (.cells #[.int .i64 y.a, .int .i64 y.b, .int .i64 y.t] 51)) hj.out); clear hj b0 b1 b2 r0 r1 r2 s0 s1 s2 q0 q1 q2 q3 q4
                    go_wp2
                    go_ret
                    exact ⟨by rw [HV.out (by simp [HT.out, HY.out, HZ.out])]; rfl, HB2.out⟩
                | false =>
                  have HY := Aside0.mk hgood; clear hgood
                  go_wp2_with fail
                  have b0 := blk_cell (blk_box HA.out (.cells #[.int .i64 y.a, .int .i64 y.b, .int .i64 y.t] 51)) 0; have b1 := blk_cell (blk_box HA.out (.cells #[.int .i64 y.a, .int .i64 y.b, .int .i64 y.t] 51)) 1; have b2 := blk_cell (blk_box HA.out (.cells #[.int .i64 y.a, .int .i64 y.b, .int .i64 y.t] 51)) 2
                  have r0 := blk_cell (al_new wr (.cells #[.int .i64 y.a, .int .i64 y.b, .int .i64 y.t] 51)) 0; have r1 := blk_cell (al_new wr (.cells #[.int .i64 y.a, .int .i64 y.b, .int .i64 y.t] 51)) 1; have r2 := blk_cell (al_new wr (.cells #[.int .i64 y.a, .int .i64 y.b, .int .i64 y.t] 51)) 2
                  have s0 := pw_cell_below (below_alloc (Below.refl wr.heap.size wr) (.cells #[.int .i64 y.a, .int .i64 y.b, .int .i64 y.t] 51)) e0; have s1 := pw_cell_below (below_alloc (Below.refl wr.heap.size wr) (.cells #[.int .i64 y.a, .int .i64 y.b, .int .i64 y.t] 51)) e1; have s2 := pw_cell_below (below_alloc (Below.refl wr.heap.size wr) (.cells #[.int .i64 y.a, .int .i64 y.b, .int .i64 y.t] 51)) e2
                  clear a1 a2 d0 d1 d2 h0 h1
                  simp only [List.getElem?_toArray, List.getElem?_cons_zero, List.getElem?_cons_succ] at b0 b1 b2 r0 r1 r2
                  refine Grow.wp_region_growB (by kernel_rfl) (by kernel_rfl) ?_
                  repeat ((first | (refine Grow.lex_skip (by rfl) ?_) | (refine Grow.lex_do _ (by rfl) (by intro W hj; have t0 := pw_cell_below hj.out b0; have t1 := pw_cell_below hj.out b1; have t2 := pw_cell_below hj.out b2; have t3 := pw_cell_below hj.out r0; have t4 := pw_cell_below hj.out r1; have t5 := pw_cell_below hj.out r2; have t6 := pw_cell_below hj.out s0; have t7 := pw_cell_below hj.out s1; have t8 := pw_cell_below hj.out s2; go_simp; first | exact Grow.Upon.val hj | exact Grow.Upon.callB hj (impl_nodes W A0 A1 (some ad) x.vs.length x.qs.length x.rs.length c0 c1 c2 hlen0 hlen1) | (have c := impl_goodRoad W y x.nodes HN.out.1 HN.out.2; rw [HY.out] at c; exact Grow.Upon.callB hj c) | (have c := impl_compare W z y; rw [HC.out] at c; exact Grow.Upon.callB hj c)) ?_)); refine Grow.lex_norm (fun K hK => ?_); go_simp; refine hK _ ?_; clear hK K)
                  refine Grow.lex_nil (fun W hj => ?_)
                  have HB2 := Aside0.mk (bel_call (bel_box HB.out (.cells #[.int .i64 y.a, .int .i64 y.b, .int .i64 y.t] 51)) hj.out); have HA2 := Aside0.mk (blk_below (blk_box HA.out (.cells #[.int .i64 y.a, .int .i64 y.b, .int .i64 y.t] 51)) hj.out); clear hj b0 b1 b2 r0 r1 r2 s0 s1 s2 q0 q1 q2 q3 q4
                  go_wp2
                  go_ret
                  exact ⟨by rw [HV.out (by simp [HT.out, HY.out])]; rfl, HB2.out⟩
            · have hkk : k = x.rs.length := by omega
              have HK2 := Aside0.mk (hkk ▸ HG2.out : allI x.rs.length (roadAt x.nodes x.rs) = true); clear hkk HG2
              go_wp2
              go_ret
              exact ⟨by rw [show x.valid = true by unfold Inst.valid; rw [HF.out, HK0.out, HK1.out, HK2.out]; rfl]; rfl, HB.out⟩
end
end Go.Proofs.YtbccaabaplbmhaaGreatDoor.L1
set_option linter.unusedVariables false
namespace Go.Proofs.YtbccaabaplbmhaaGreatDoor.Open
open Go.RowKit Go.Proofs.YtbccaabaplbmhaaGreatDoorW.PrintWords
section
variable (P : Program)
end
section
variable {H : Type} {enc : TypeId × Value → H} {P : Program} {w : World} {base : Nat} {spare : Nat → Bool} {held : Bool}
open Go.Proofs.YtbccaabaplbmhaaGreatDoorW.PrintWords.Kd in
/-- A row that came in: of any kind whose element can be told from its reading. -/
theorem open_C {α : Type} (d : Kd α) {t e : TypeId} {fuel : Nat} {cs : List Value} {x : DataW H × List MemPlace} (ht : P.underlying t = some (.slice e)) (hsz : P.cellsOf e = d.sz)
    (hel : ∀ n cs x, DataW.trod enc P w base spare held n e cs = some x → ∃ y, d.K w y cs) (h : DataW.trod enc P w base spare held fuel t cs = some x) :
    ∃ A c xs, cs = [.slice A xs.length c] ∧ d.C w A xs.length xs := by
  rcases Deep.open_slice ht h with ⟨rfl, rfl⟩ | ⟨a, len, cap, m, n, D, Pl, rfl, hb, hl, hm, hmm, rfl, hx⟩
  · exact ⟨none, 0, [], rfl, rfl, by simp, by simp⟩
  · have hlm : len ≤ m := by rw [hmm]; split <;> omega
    have hy : ∀ i, i < len → ∃ y, ∃ cs', w.cells? base (a.add (i * P.cellsOf e)) (P.cellsOf e) = some cs' ∧ d.K w y cs' := fun i hi => by
      obtain ⟨cs', h1, h2⟩ := hx i (by omega)
      obtain ⟨y, hy⟩ := hel _ _ _ h2
      exact ⟨y, cs', h1, hy⟩
    have hex : ∃ xs : List α, xs.length = len ∧ ∀ j p, xs[j]? = some p → ∃ cs', w.cells? base (a.add (j * P.cellsOf e)) (P.cellsOf e) = some cs' ∧ d.K w p cs' := by
      refine ⟨(List.range len).pmap (fun i (hi : i < len) => (hy i hi).choose) (fun i hi => by simpa using hi), by simp, fun j p hp => ?_⟩
      have hj : j < len := by simpa using (List.getElem?_eq_some_iff.1 hp).1
      have : (hy j hj).choose = p := by
        obtain ⟨hj', e⟩ := List.getElem?_eq_some_iff.1 hp
        simpa using e
      rw [← this]
      exact (hy j hj).choose_spec
    obtain ⟨xs, rfl, hxs⟩ := hex
    refine ⟨some a, cap, xs, rfl, rfl, by have : maxLen ≤ 9223372036854775807 := by decide
                                          omega, fun _ => ⟨a, rfl, fun j p hp => ?_⟩⟩
    obtain ⟨cs', h1, h2⟩ := hxs j p hp
    have hlen := d.K_len h2
    refine ⟨cs', hlen, h2, fun i u hu => ?_⟩
    unfold World.cells? at h1
    split at h1
    · have hi : i < d.sz := by have := (List.getElem?_eq_some_iff.1 hu).1; omega
      have h3 := mapM_some_get h1 i i (by rw [hsz]; simp [hi])
      rw [Deep.add_add, hsz, hu] at h3
      exact h3
    · cases h1
end
end Go.Proofs.YtbccaabaplbmhaaGreatDoor.Open
namespace Go.Proofs.YtbccaabaplbmhaaGreatDoor.L1
open Go.RowKit Go.Proofs.YtbccaabaplbmhaaGreatDoorW.PrintWords Go.Proofs.YtbccaabaplbmhaaGreatDoor.B
set_option linter.unusedVariables false
set_option linter.unusedSimpArgs false
attribute [local go_sem] mk_cell mk_frozen
section
variable {H : Type} {enc : TypeId × Value → H} {w : World} {base : Nat} {spare : Nat → Bool} {held : Bool}
end
section
variable (w : World)
end
end Go.Proofs.YtbccaabaplbmhaaGreatDoor.L1
namespace Go.Proofs.YtbccaabaplbmhaaGreatDoor.L1
open Go.RowKit Go.Proofs.YtbccaabaplbmhaaGreatDoorW.PrintWords Go.Proofs.YtbccaabaplbmhaaGreatDoor.B
set_option linter.unusedVariables false
set_option linter.unusedSimpArgs false
def digs (z : Nat) : List Int := if z < 10 then [((48 + z : Nat) : Int)] else digs (z / 10) ++ [((48 + z % 10 : Nat) : Int)]
termination_by z
decreasing_by omega
theorem digs_small {z : Nat} (h : z < 10) : digs z = [((48 + z : Nat) : Int)] := by rw [digs]; exact if_pos h
theorem digs_big {z : Nat} (h : ¬ z < 10) : digs z = digs (z / 10) ++ [((48 + z % 10 : Nat) : Int)] := by rw [digs]; exact if_neg h
theorem digs_len (k : Nat) : ∀ z, z < 10 ^ (k + 1) → (digs z).length ≤ k + 1 := by
  induction k with
  | zero => intro z h; rw [digs_small (by simpa using h)]; simp
  | succ k ih =>
    intro z h
    by_cases hz : z < 10
    · rw [digs_small hz]; simp
    · rw [digs_big hz, List.length_append]
      have := ih (z / 10) (by rw [Nat.div_lt_iff_lt_mul (by decide)]; rw [Nat.pow_succ] at h; exact h)
      simp only [List.length_cons, List.length_nil]
      omega
def ofU (l : List UInt8) : List Int := l.map fun b => (b.toNat : Int)
theorem digs_dec (z : Nat) : digs z = ofU (Lib.decDigits z) := by
  induction z using Nat.strongRecOn with
  | _ z ih =>
    by_cases h : z < 10
    · rw [digs_small h, Lib.decDigits, dif_pos h]
      simp only [ofU, List.map_cons, List.map_nil, UInt8.toNat_ofNat']
      congr 1; omega
    · have e : Lib.decDigits z = Lib.decDigits (z / 10) ++ [UInt8.ofNat (48 + z % 10)] := by rw [Lib.decDigits, dif_neg h]
      rw [digs_big h, ih (z / 10) (by omega), e]
      simp only [ofU, List.map_append, List.map_cons, List.map_nil, UInt8.toNat_ofNat']
      congr 2; omega
def dec (n : Int) : List Int := if n < 0 then 45 :: digs (-n).toNat else digs n.toNat
theorem dec_itoa (n : Int) : dec n = ofU (Lib.itoa n) := by
  unfold dec Lib.itoa
  split
  · rw [digs_dec]
    show _ = _ :: _
    rw [show (-n).toNat = n.natAbs by omega]
    rfl
  · exact digs_dec _
theorem dec_len {n : Int} (h : -9000000000 ≤ n ∧ n ≤ 9000000000) : (dec n).length ≤ 11 := by
  unfold dec
  split
  · have := digs_len 9 (-n).toNat (by omega); simp only [List.length_cons]; omega
  · have := digs_len 9 n.toNat (by omega); omega
def tagAt (s : Int) (t : Nat) : List Int := if s / 2 ^ t % 2 = 1 then [((97 + t : Nat) : Int)] else []
def tagsTo (s : Int) (k : Nat) : List Int := (List.range k).flatMap (tagAt s)
theorem tagsTo_succ (s : Int) (k : Nat) : tagsTo s (k + 1) = tagsTo s k ++ tagAt s k := by simp [tagsTo, List.range_succ]
theorem tagsTo_len (s : Int) : ∀ k, (tagsTo s k).length ≤ k
  | 0 => by simp [tagsTo]
  | k + 1 => by
    have := tagsTo_len s k
    rw [tagsTo_succ, List.length_append]
    have : (tagAt s k).length ≤ 1 := by unfold tagAt; split <;> simp
    omega
def tagT (s : Int) : List Int := if (tagsTo s 16).length = 0 then [45] else tagsTo s 16
theorem tagT_len (s : Int) : (tagT s).length ≤ 16 := by
  unfold tagT
  split
  · simp
  · exact tagsTo_len s 16
/-- fields with blanks behind each; fields with blanks between. -/
def wds (fs : List (List Int)) : List Int := fs.flatMap (· ++ [32])
def joinTo (fs : List (List Int)) : Nat → List Int
  | 0 => []
  | k + 1 => (joinTo fs k ++ if k = 0 then [] else [32]) ++ fs.getD k []
def lineOf (fs : List (List Int)) : List Int := joinTo fs fs.length ++ [10]
theorem wds_append (a b : List (List Int)) : wds (a ++ b) = wds a ++ wds b := by simp [wds]
theorem wds_one (a : List Int) : wds [a] = a ++ [32] := by simp [wds]
theorem wds_join (fs : List (List Int)) : ∀ k, k < fs.length → wds (fs.take (k + 1)) = joinTo fs (k + 1) ++ [32]
  | 0, h => by
    rw [List.take_add_one, List.getElem?_eq_getElem h]
    simp [wds, joinTo, List.getD_eq_getElem?_getD, h]
  | k + 1, h => by
    rw [List.take_add_one, wds_append, wds_join fs k (by omega), List.getElem?_eq_getElem h]
    show _ = ((_ ++ if k + 1 = 0 then [] else [32]) ++ _) ++ [32]
    rw [if_neg (by omega), List.getD_eq_getElem?_getD, List.getElem?_eq_getElem h]
    simp [wds]
theorem wds_line {fs : List (List Int)} (h : fs ≠ []) : ∃ l, wds fs = l ++ [32] ∧ lineOf fs = l ++ [10] := by
  obtain ⟨n, hn⟩ : ∃ n, fs.length = n + 1 := ⟨fs.length - 1, by have := List.length_pos_iff.2 h; omega⟩
  refine ⟨joinTo fs (n + 1), ?_, by unfold lineOf; rw [hn]⟩
  have := wds_join fs n (by omega)
  rw [← hn, List.take_length] at this
  rw [this, hn]
theorem line_len {fs : List (List Int)} (h : fs ≠ []) : (lineOf fs).length = (wds fs).length := by
  obtain ⟨l, h1, h2⟩ := wds_line h
  rw [h1, h2]; simp
theorem wds_len {fs : List (List Int)} (h : ∀ f, f ∈ fs → f.length ≤ 16) : (wds fs).length ≤ 17 * fs.length := by
  induction fs with
  | nil => simp [wds]
  | cons a t ih =>
    have h1 := ih fun f hf => h f (List.mem_cons_of_mem _ hf)
    have h2 := h a List.mem_cons_self
    rw [show a :: t = [a] ++ t from rfl, wds_append, wds_one]
    simp only [List.length_append, List.length_cons, List.length_nil] at *
    omega
def Place.flds (p : Place) : List (List Int) := [dec p.x, dec p.y, dec p.o, dec p.c, dec p.h]
def wVehicle : List Int := [118, 101, 104, 105, 99, 108, 101]
def wRequest : List Int := [114, 101, 113, 117, 101, 115, 116]
def wRoad : List Int := [114, 111, 97, 100]
def Veh.flds (v : Veh) : List (List Int) := [wVehicle, dec v.room, tagT v.skills] ++ v.home.flds
def Req.flds (v : Req) : List (List Int) := ([wRequest, dec v.size, tagT v.tags] ++ v.from_.flds) ++ v.to_.flds
def Road.flds (v : Road) : List (List Int) := [wRoad, dec v.a, dec v.b, dec v.t]
def Place.fit (p : Place) : Prop := ∀ q, q ∈ [p.x, p.y, p.o, p.c, p.h] → -1000000000 ≤ q ∧ q ≤ 1000000000
theorem Place.good_fit {p : Place} (h : p.good = true) : p.fit := by
  intro q hq
  simp only [Place.good, inB, Bool.and_eq_true, decide_eq_true_eq] at h
  simp only [List.mem_cons, List.not_mem_nil, or_false] at hq
  rcases hq with rfl | rfl | rfl | rfl | rfl <;> omega
def lines {α : Type} (f : α → List (List Int)) (l : List α) : List Int := l.flatMap fun a => lineOf (f a)
theorem lines_succ {α : Type} (f : α → List (List Int)) (l : List α) (z : α) (k : Nat) (hk : k < l.length) : lines f (l.take (k + 1)) = lines f (l.take k) ++ lineOf (f (l.getD k z)) := by
  unfold lines
  rw [List.take_add_one, List.flatMap_append, List.getD_eq_getElem?_getD, List.getElem?_eq_getElem hk]
  simp
theorem lines_len {α : Type} (f : α → List (List Int)) (l : List α) (h : ∀ a, a ∈ l → (lineOf (f a)).length ≤ 300) : (lines f l).length ≤ 300 * l.length := by
  induction l with
  | nil => simp [lines]
  | cons a t ih =>
    have h1 := ih fun f hf => h f (List.mem_cons_of_mem _ hf)
    have h2 := h a List.mem_cons_self
    rw [show lines f (a :: t) = lineOf (f a) ++ lines f t from rfl, List.length_append, List.length_cons]
    omega
def Inst.text (x : Inst) : List Int := (lines Veh.flds x.vs ++ lines Req.flds x.qs) ++ lines Road.flds x.rs
def Inst.print (x : Inst) : List Int := if x.valid then x.text else []
theorem Place.flds_len {p : Place} (h : p.fit) : ∀ f, f ∈ p.flds → f.length ≤ 16 := by
  intro f hf
  simp only [Place.flds, List.mem_cons, List.not_mem_nil, or_false] at hf
  have hh : ∀ n, n ∈ [p.x, p.y, p.o, p.c, p.h] → (dec n).length ≤ 16 := fun n hn => Nat.le_trans (dec_len (by have := h n hn; omega)) (by decide)
  rcases hf with rfl | rfl | rfl | rfl | rfl <;> exact hh _ (by simp)
structure Veh.Fit (v : Veh) : Prop where
  room : -1000000000 ≤ v.room ∧ v.room ≤ 1000000000
  skills : 0 ≤ v.skills ∧ v.skills ≤ 65535
  home : v.home.fit
structure Req.Fit (v : Req) : Prop where
  size : -1000000000 ≤ v.size ∧ v.size ≤ 1000000000
  tags : 0 ≤ v.tags ∧ v.tags ≤ 65535
  from_ : v.from_.fit
  to_ : v.to_.fit
structure Road.Fit (v : Road) : Prop where
  a : -1000000000 ≤ v.a ∧ v.a ≤ 1000000000
  b : -1000000000 ≤ v.b ∧ v.b ≤ 1000000000
  t : -1000000000 ≤ v.t ∧ v.t ≤ 1000000000
theorem Veh.good_fit {v : Veh} (h : v.good = true) : v.Fit := by
  simp only [Veh.good, inB, Bool.and_eq_true, decide_eq_true_eq] at h
  exact ⟨by omega, by omega, Place.good_fit h.2⟩
theorem Req.good_fit {v : Req} (h : v.good = true) : v.Fit := by
  simp only [Req.good, inB, Bool.and_eq_true, decide_eq_true_eq] at h
  exact ⟨by omega, by omega, Place.good_fit h.1.2, Place.good_fit h.2⟩
theorem Road.good_fit {v : Road} {n : Int} (hn : n ≤ 1000000000) (h : v.good n = true) : v.Fit := by
  simp only [Road.good, inB, Bool.and_eq_true, decide_eq_true_eq] at h
  exact ⟨by omega, by omega, by omega⟩
structure Inst.Fit (x : Inst) : Prop where
  nv : x.vs.length ≤ 64
  nq : x.qs.length ≤ 1000
  nr : x.rs.length ≤ 4000
  vs : ∀ v, v ∈ x.vs → v.Fit
  qs : ∀ v, v ∈ x.qs → v.Fit
  rs : ∀ v, v ∈ x.rs → v.Fit
theorem Inst.fit_of {x : Inst} (h : x.valid = true) : x.Fit := by
  simp only [Inst.valid, Inst.few, Bool.and_eq_true, decide_eq_true_eq] at h
  obtain ⟨⟨⟨⟨⟨h1, h2⟩, h3⟩, hv⟩, hq⟩, hr⟩ := h
  refine ⟨h1, h2, h3, ?_, ?_, ?_⟩
  · intro v hm
    obtain ⟨k, hk, rfl⟩ := List.getElem_of_mem hm
    have := allI_iff.1 hv k hk
    rw [List.getD_eq_getElem?_getD, List.getElem?_eq_getElem hk] at this
    exact Veh.good_fit this
  · intro v hm
    obtain ⟨k, hk, rfl⟩ := List.getElem_of_mem hm
    have := allI_iff.1 hq k hk
    rw [List.getD_eq_getElem?_getD, List.getElem?_eq_getElem hk] at this
    exact Req.good_fit this
  · intro v hm
    obtain ⟨k, hk, rfl⟩ := List.getElem_of_mem hm
    have := allI_iff.1 hr k hk
    simp only [roadAt, Bool.and_eq_true] at this
    rw [List.getD_eq_getElem?_getD, List.getElem?_eq_getElem hk] at this
    exact Road.good_fit (by unfold Inst.nodes; omega) this.1
theorem fit_at {α : Type} {P : α → Prop} {l : List α} (h : ∀ v, v ∈ l → P v) (z : α) {k : Nat} (hk : k < l.length) : P (l.getD k z) := by
  rw [List.getD_eq_getElem?_getD, List.getElem?_eq_getElem hk]
  exact h _ (List.getElem_mem hk)
theorem Veh.flds_len {v : Veh} (h : v.Fit) : ∀ f, f ∈ v.flds → f.length ≤ 16 := by
  intro f hf
  simp only [Veh.flds, List.mem_append, List.mem_cons, List.not_mem_nil, or_false] at hf
  rcases hf with (rfl | rfl | rfl) | hf
  · decide
  · exact Nat.le_trans (dec_len (by have := h.room; omega)) (by decide)
  · exact tagT_len _
  · exact Place.flds_len h.home f hf
theorem Req.flds_len {v : Req} (h : v.Fit) : ∀ f, f ∈ v.flds → f.length ≤ 16 := by
  intro f hf
  simp only [Req.flds, List.mem_append, List.mem_cons, List.not_mem_nil, or_false] at hf
  rcases hf with ((rfl | rfl | rfl) | hf) | hf
  · decide
  · exact Nat.le_trans (dec_len (by have := h.size; omega)) (by decide)
  · exact tagT_len _
  · exact Place.flds_len h.from_ f hf
  · exact Place.flds_len h.to_ f hf
theorem Road.flds_len {v : Road} (h : v.Fit) : ∀ f, f ∈ v.flds → f.length ≤ 16 := by
  intro f hf
  simp only [Road.flds, List.mem_cons, List.not_mem_nil, or_false] at hf
  rcases hf with rfl | rfl | rfl | rfl
  · decide
  · exact Nat.le_trans (dec_len (by have := h.a; omega)) (by decide)
  · exact Nat.le_trans (dec_len (by have := h.b; omega)) (by decide)
  · exact Nat.le_trans (dec_len (by have := h.t; omega)) (by decide)
theorem Veh.line_len {v : Veh} (h : v.Fit) : (lineOf v.flds).length ≤ 300 := by
  rw [L1.line_len (by simp [Veh.flds])]
  exact Nat.le_trans (wds_len (Veh.flds_len h)) (by simp [Veh.flds, Place.flds])
theorem Req.line_len {v : Req} (h : v.Fit) : (lineOf v.flds).length ≤ 300 := by
  rw [L1.line_len (by simp [Req.flds])]
  exact Nat.le_trans (wds_len (Req.flds_len h)) (by simp [Req.flds, Place.flds])
theorem Road.line_len {v : Road} (h : v.Fit) : (lineOf v.flds).length ≤ 300 := by
  rw [L1.line_len (by simp [Road.flds])]
  exact Nat.le_trans (wds_len (Road.flds_len h)) (by simp [Road.flds])
theorem lines_take_len {α : Type} (f : α → List (List Int)) (l : List α) (h : ∀ a, a ∈ l → (lineOf (f a)).length ≤ 300) (k : Nat) : (lines f (l.take k)).length ≤ 300 * l.length := by
  have := lines_len f (l.take k) fun a ha => h a (List.mem_of_mem_take ha)
  have : (l.take k).length ≤ l.length := by rw [List.length_take]; omega
  omega
end Go.Proofs.YtbccaabaplbmhaaGreatDoor.L1
