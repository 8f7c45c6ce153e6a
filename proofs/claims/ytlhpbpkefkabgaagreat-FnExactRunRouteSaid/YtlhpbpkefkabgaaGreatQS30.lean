/- The program's frame goes on to a stop. -/
import Derived.Test.YtlhpbpkefkabgaaGreatQS26
namespace Go.Proofs.YtlhpbpkefkabgaaGreat.L1
open Go.RowKit Go.Proofs.YtlhpbpkefkabgaaGreatW.PrintWords Go.Proofs.YtlhpbpkefkabgaaGreat.B
set_option linter.unusedVariables false
set_option linter.unusedSimpArgs false
attribute [local go_sem] mk_cell mk_frozen
section
variable (w : World)
set_option maxRecDepth 100000 in
set_option maxHeartbeats 8000000 in
theorem impl_arrive_stop (w0 : World) (g ga len cR : Nat) (p nd t d l : Int) (k0 k1 k2 k3 k4 : Value) (B0 : Option Addr) (d0 : Nat) (B1 : Option Addr) (d1 : Nat) (B2 : Option Addr) (d2 : Nat) (x : Inst) (kv : Nat) (q : Int) (s0 s2 : Value) (br : Int) (rs sl st : List Int) (hI : ReadInst w0 (.agg #[.slice B0 x.vs.length d0, .slice B1 x.qs.length d1, .slice B2 x.rs.length d2]) x) (hval : x.valid = true) (hv : kv < x.vs.length)
    (hB : Below w0.heap.size w0 w) (hg : w.heap[g]? = some (.cells (frameC p nd t d l k0 k1 k2 k3 k4 (.slice B0 x.vs.length d0) (.slice B1 x.qs.length d1) (.slice B2 x.rs.length d2) kv q s0 (.slice (some ⟨ga, 0, none⟩) len cR) s2 br) 125 (0, 0))) (hgg : w0.heap.size ≤ g) (hga : w0.heap.size ≤ ga) (hR : kInt.R 2 w w0.heap.size (fun _ => True) (.slice (some ⟨ga, 0, none⟩) len cR) rs) (hS : kInt.R 2 w w0.heap.size (fun _ => True) s2 sl) (hT : kInt.R 2 w w0.heap.size (fun _ => True) s0 st) (hne2 : s2.ownBlock ≠ some ga) (hne0 : s0.ownBlock ≠ some ga) (hlen : 13 ≤ len)
    (hn0 : 0 ≤ nd) (hn1 : nd < x.nodes) (hp0 : 0 ≤ p) (hp1 : p ≤ 4096) (s : St) (hs : s.pos = p ∧ s.node = nd ∧ s.time = t ∧ s.dist = d ∧ s.load = l) (k m j dd : Nat) (hj : j < x.qs.length) (hdd : dd < 2) (hm : m = 2 * j + dd) (hk : k = x.vs.length + m) (bp bd : Bool) (hbp : bp = (dd == 0)) (hbd : bd = (dd == 1)) :
    Calls Tryz.prog 68 #[.pointer (some ⟨g, 0, none⟩), .int .i64 k] w fun e w' => e = .returned (.tuple #[]) ∧ Below w0.heap.size w0 w' ∧ w'.heap[g]? = some (.cells (frameC (p + 1) k (maxI (x.placeAt k).o (nextArr x s k)) (satAdd s.dist (x.leg s.node k)) (satAdd s.load ((bitI (x.pick k) - bitI (x.dropB k)) * x.sizeAt k)) k0 k1 k2 k3 k4 (.slice B0 x.vs.length d0) (.slice B1 x.qs.length d1) (.slice B2 x.rs.length d2) kv (j : Int) s0 (.slice (some ⟨ga, 0, none⟩) len cR) s2 br) 125 (0, 0)) ∧
      kInt.R 2 w' w0.heap.size (fun _ => True) (.slice (some ⟨ga, 0, none⟩) len cR) ((nextA x kv s k) ++ rs.drop 13) ∧ kInt.R 2 w' w0.heap.size (fun _ => True) s2 sl ∧ kInt.R 2 w' w0.heap.size (fun _ => True) s0 st := by
  obtain ⟨f0, f1, f2, hnear⟩ := Inst.few_near hval
  have HF := sA (And.intro f0 (And.intro f1 (And.intro f2 (And.intro hnear (And.intro hn0 hn1)))))
  have hsort := Inst.sorted_of hval
  have HSO := sA hsort
  have HXI := sA hI; have HVAL := sA hval
  have HSM := sA (show x.vs.length ≤ 1048576 by omega)
  obtain ⟨C0, c0, C1, c1, C2, c2, he, b0, b1, b2⟩ := hI; clear b2
  have he1 : B0 = C0 ∧ B1 = C1 := by injection he with he; simp at he; exact ⟨he.1.1, he.2.1.1⟩
  obtain ⟨rfl, rfl⟩ := he1
  obtain ⟨ad, e0, t0, t1⟩ := Kd.flat_cells (d := kVeh) rfl b0 zV kv hv
  cases e0
  have ZV := sA (t0 _ rfl); clear t0 t1
  obtain ⟨aq, e1, u0, u1⟩ := Kd.flat_cells (d := kReq) rfl b1 zQ j hj
  cases e1
  have ZQ := sA (u0 _ rfl); clear u0 u1
  obtain ⟨hs0, hs1, hs2, hs3, hs4⟩ := hs
  have HST := sA (And.intro hs0 (And.intro hs1 (And.intro hs2 (And.intro hs3 hs4))))
  have hge : decide ((x.vs.length : Int) ≤ (k : Int)) = true := decide_eq_true (by omega)
  have hgn : decide (x.vs.length ≤ k) = true := decide_eq_true (by omega)
  have hpp : decide (p < 0) = false := decide_eq_false (by omega)
  have hnode : (k : Int) < x.nodes := by unfold Inst.nodes; omega
  have hjI : (j : Int) < (x.qs.length : Int) := by omega
  have hst : x.stop (k : Int) = true := by unfold Inst.stop Inst.nodes; exact (inB_iff _ _ _).2 ⟨by omega, by omega⟩
  have hpk : x.pick k = bp ∧ x.dropB k = bd ∧ x.sizeAt k = (x.qs.getD j zQ).size := by
    have e : ((k : Int) - x.vs.length) = (m : Int) := by omega
    have et : ((m : Int)).tmod 2 = (dd : Int) := by show ((m : Int)).tmod ((2 : Nat) : Int) = _; rw [← Int.ofNat_tmod]; omega
    have ed : (((m : Int)).tdiv 2).toNat = j := by show (((m : Int)).tdiv ((2 : Nat) : Int)).toNat = _; rw [← Int.ofNat_tdiv]; omega
    unfold Inst.pick Inst.dropB Inst.sizeAt Inst.reqI
    rw [hst, e, et, ed]
    refine ⟨?_, ?_, rfl⟩
    · rw [hbp]; rcases (show dd = 0 ∨ dd = 1 by omega) with h | h <;> subst h <;> rfl
    · rw [hbd]; rcases (show dd = 0 ∨ dd = 1 by omega) with h | h <;> subst h <;> rfl
  have hsz := Inst.size_bd hval (k : Int)
  rw [hpk.2.2] at hsz
  have hbm := bit_mul bp bd hsz.1 hsz.2
  have hbb1 := bitI_bd bp; have hbb2 := bitI_bd bd
  generalize hzs : (x.qs.getD j zQ).size = zs at ZQ hsz hbm hpk
  have HPK := sA hpk
  have HEM := sA (show zs * (bitI bp - bitI bd) = (bitI bp - bitI bd) * zs from Int.mul_comm _ _)
  have Yqs1 := sA (show IntKind.i64.wrap (bitI bp - bitI bd) = bitI bp - bitI bd from IntWalk.i64_in _ (by omega))
  have Yqs2 := sA (show IntKind.i64.wrap (zs * (bitI bp - bitI bd)) = zs * (bitI bp - bitI bd) from IntWalk.i64_in _ (by have := HEM.out; omega))
  have HQS := sA (And.intro Yqs1.out Yqs2.out); clear Yqs1 Yqs2
  have Yqp := sA (show IntKind.i64.wrap (p + 1) = p + 1 from IntWalk.i64_in _ (by omega))
  have ew : wrap64 ((k : Int) - (x.vs.length : Int)) = (m : Int) := by rw [IntWalk.wrap64_in _ (by omega)]; omega
  have et : ((m : Int)).tmod 2 = (dd : Int) := by show ((m : Int)).tmod ((2 : Nat) : Int) = _; rw [← Int.ofNat_tmod]; omega
  have ed : ((m : Int)).tdiv 2 = (j : Int) := by show ((m : Int)).tdiv ((2 : Nat) : Int) = _; rw [← Int.ofNat_tdiv]; omega
  have YJ := sA (show wrap64 ((wrap64 ((k : Int) - (x.vs.length : Int))).tdiv 2) = (j : Int) by rw [ew, ed]; exact IntWalk.wrap64_in _ (by omega))
  have YP := sA (show ((wrap64 ((k : Int) - (x.vs.length : Int))).tmod 2 == 0) = bp by rw [ew, et, hbp]; rcases (show dd = 0 ∨ dd = 1 by omega) with h | h <;> subst h <;> rfl)
  have YD := sA (show ((wrap64 ((k : Int) - (x.vs.length : Int))).tmod 2 == 1) = bd by rw [ew, et, hbd]; rcases (show dd = 0 ∨ dd = 1 by omega) with h | h <;> subst h <;> rfl)
  clear ew et ed
  clear hzs hpk hbm hbb1 hbb2 hst hs0 hs1 hs2 hs3 hs4 hbp hbd hn0 hn1 hp0 hsz
  have HKM := sA (And.intro hm hk); clear hm hk
  unfold frameC at hg
  have HB0 := sA hB; have HKG0 := sA hg; have HR10 := sA hR; have HR20 := sA hS; have HR00 := sA hT; have HNE := sA (And.intro hne2 (And.intro hne0 hlen)); have HGE := sA (And.intro hgg hga); have HSZ0 := sA (Nat.le_refl w.heap.size)
  have HND := sA hnode
  clear b0 b1 he hB hg hR hS hT hne2 hne0 hlen hgg hga hval f0 f1 f2 hnear hsort hnode
  generalize hrm : (x.vs.getD kv zV).room = rm at ZV
  have HRM := sA hrm; clear hrm
  have qp := Yqp.out; clear Yqp
  go_enter Tryz.func68, Tryz.ntmps68
  obtain ⟨kg1, kg2⟩ := lay0 HKG0.out
  have cZV := pC HB0.out ZV.out
  have cZQ := pC HB0.out ZQ.out
  go_wp2_with fail
  clear kg1 kg2 cZV cZQ
  refine Grow.wp_region_plan 10 ⟨[(9, 4)], fun _ v lo _ W => BoxG #[.slice none 0 0, .slice none 0 0, .slice none 0 0] 47 v lo W, fun i v lo hi W W' hb h => ⟨h.1, bB h.2 hb⟩⟩ (by kernel_rfl) (List.pairwise_singleton _ _) (by kernel_rfl) (by rfl) ?_
  dsimp only [List.take, List.drop]
  repeat ((first | (refine Grow.lexP_make (by rfl) (by rfl) (by intro W hj; obtain ⟨kg1, kg2⟩ := lay hj.out HKG0.out; have cZV := pC (bC HB0.out hj.out) ZV.out; have cZQ := pC (bC HB0.out hj.out) ZQ.out; go_simp; refine Grow.UponB.boxR ?_; exact ⟨rfl, al_new _ _⟩) ?_) | (refine Grow.lexP_do _ (by rfl) (by rfl) (by intro W hj; obtain ⟨kg1, kg2⟩ := lay hj.out HKG0.out; have cZV := pC (bC HB0.out hj.out) ZV.out; have cZQ := pC (bC HB0.out hj.out) ZQ.out; go_simp; first | exact Grow.UponB.val | (have cc := impl_vehicles W (some ad) (some aq) B2 x.vs.length x.qs.length x.rs.length d0 d1 d2 HSM.out; with_reducible exact Grow.UponB.call cc)) ?_)); refine Grow.lexP_norm (fun K hK => ?_); go_simp; refine hK _ ?_; clear hK K)
  refine Grow.lexP_nil (fun u lo hi w1 hj hG _ => ?_)
  obtain ⟨⟨hu, hzi⟩, hlo, _, _⟩ := hG 9 rfl
  clear hG
  dsimp only [List.foldl]
  rw [hu]
  generalize lo 9 = ib at *
  clear hu
  have hb := hj.out; clear hj
  have HB1 := sA (bC HB0.out hb); have HKG1 := sA (bB HKG0.out hb); have HR11 := sA (Kd.R_below HR10.out hb); have HR21 := sA (Kd.R_below HR20.out hb); have HR01 := sA (Kd.R_below HR00.out hb); have HSZ1 := sA (Nat.le_trans HSZ0.out hb.size); clear hb
  have HKI1 := sA hzi; have hib : w0.heap.size ≤ ib := Nat.le_trans HB0.out.size hlo; have HIB := sA hib; clear hzi hlo hib
  obtain ⟨kg1, kg2⟩ := lay0 HKG1.out
  obtain ⟨ki1, ki2⟩ := lay0 HKI1.out
  have cZV := pC HB1.out ZV.out
  have cZQ := pC HB1.out ZQ.out
  go_wp2_with ((with_reducible refine gate_store (t := 47) (p := 4) rfl ?_); refine wpList_putAll rfl rfl _ _ _ rfl (g := ib) [.slice (some ad) x.vs.length d0, .slice (some aq) x.qs.length d1, .slice B2 x.rs.length d2] rfl rfl (by kernel_rfl) (one_all rfl) HKI1.out rfl ?_; intro w2 hX hT hz; clear hz; clear kg1 kg2 ki1 ki2 cZV cZQ; (try simp only [List.setIfInBounds_toArray, List.set_cons_zero, List.set_cons_succ] at hX); have HB2 := sA (hT.below w0 (fun k hk => by rw [hk]; exact HIB.out) HB1.out); have HKG2 := sA (tK hT HKI1.out HKG1.out (by decide)); have HR12 := sA (row_tch HR11.out hT HKI1.out (by decide)); have HR22 := sA (row_tch HR21.out hT HKI1.out (by decide)); have HR02 := sA (row_tch HR01.out hT HKI1.out (by decide)); have HSZ2 := sA (Nat.le_trans HSZ1.out hT.size); have HKI2 := sA hX; clear hX hT; obtain ⟨kg1, kg2⟩ := lay0 HKG2.out; obtain ⟨ki1, ki2⟩ := lay0 HKI2.out; have cZV := pC HB2.out ZV.out; have cZQ := pC HB2.out ZQ.out)
  clear kg1 kg2 ki1 ki2 cZV cZQ
  go_at_call 103
  refine (impl_place w2 _ x (HXI.out.below HB2.out) HF.out.1 HF.out.2.1 k (Int.natCast_nonneg _) HND.out).mono ?_
  rintro e w3 ⟨rfl, hb⟩
  have HB3 := sA (bC HB2.out hb); have HKG3 := sA (bB HKG2.out hb); have HKI3 := sA (bB HKI2.out hb); have HR13 := sA (Kd.R_below HR12.out hb); have HR23 := sA (Kd.R_below HR22.out hb); have HR03 := sA (Kd.R_below HR02.out hb); have HSZ3 := sA (Nat.le_trans HSZ2.out hb.size); clear hb
  generalize hpl : x.placeAt k = pl at *
  have HPL := sA hpl; clear hpl
  unfold Place.val
  obtain ⟨kg1, kg2⟩ := lay0 HKG3.out
  obtain ⟨ki1, ki2⟩ := lay0 HKI3.out
  have cZV := pC HB3.out ZV.out
  have cZQ := pC HB3.out ZQ.out
  go_wp2_with (first | ((with_reducible refine gate_store (t := 69) (p := 6) rfl ?_); have hsz := HSZ3.out; have HB4 := sA (bel_box HB3.out (.cells #[.int .i64 0, .int .i64 0, .int .i64 0, .int .i64 0, .int .i64 0] 69)); have HKG4 := sA (blk_box HKG3.out (.cells #[.int .i64 0, .int .i64 0, .int .i64 0, .int .i64 0, .int .i64 0] 69)); have HKI4 := sA (blk_box HKI3.out (.cells #[.int .i64 0, .int .i64 0, .int .i64 0, .int .i64 0, .int .i64 0] 69)); have HR14 := sA (Kd.R_below HR13.out (bA (Below.refl _ _) (.cells #[.int .i64 0, .int .i64 0, .int .i64 0, .int .i64 0, .int .i64 0] 69))); have HR24 := sA (Kd.R_below HR23.out (bA (Below.refl _ _) (.cells #[.int .i64 0, .int .i64 0, .int .i64 0, .int .i64 0, .int .i64 0] 69))); have HR04 := sA (Kd.R_below HR03.out (bA (Below.refl _ _) (.cells #[.int .i64 0, .int .i64 0, .int .i64 0, .int .i64 0, .int .i64 0] 69))); have HSZ4 := sA (Nat.le_trans HSZ3.out (bA (Below.refl _ _) (.cells #[.int .i64 0, .int .i64 0, .int .i64 0, .int .i64 0, .int .i64 0] 69)).size); have HKP4 := sA (al_new w3 (.cells #[.int .i64 0, .int .i64 0, .int .i64 0, .int .i64 0, .int .i64 0] 69)); have HGKP := sA (Nat.le_trans HB3.out.size (Nat.le_refl w3.heap.size)); clear hsz; refine wpList_putAll rfl rfl _ _ _ rfl (g := w3.heap.size) [.int .i64 pl.x, .int .i64 pl.y, .int .i64 pl.o, .int .i64 pl.c, .int .i64 pl.h] rfl rfl (by kernel_rfl) (one_all rfl) HKP4.out rfl ?_; intro w5 hX hT hz; clear hz; clear kg1 kg2 ki1 ki2 cZV cZQ; (try simp only [List.setIfInBounds_toArray, List.set_cons_zero, List.set_cons_succ] at hX); have HB5 := sA (hT.below w0 (fun k hk => by rw [hk]; exact HGKP.out) HB4.out); have HKG5 := sA (tK hT HKP4.out HKG4.out (by decide)); have HKI5 := sA (tK hT HKP4.out HKI4.out (by decide)); have HR15 := sA (row_tch HR14.out hT HKP4.out (by decide)); have HR25 := sA (row_tch HR24.out hT HKP4.out (by decide)); have HR05 := sA (row_tch HR04.out hT HKP4.out (by decide)); have HSZ5 := sA (Nat.le_trans HSZ4.out hT.size); have HKP5 := sA hX; clear hX hT; obtain ⟨kg1, kg2⟩ := lay0 HKG5.out; obtain ⟨ki1, ki2⟩ := lay0 HKI5.out; obtain ⟨kp1, kp2⟩ := lay0 HKP5.out; have cZV := pC HB5.out ZV.out; have cZQ := pC HB5.out ZQ.out) | ((with_reducible refine gate_store (t := 2) (p := 23) rfl ?_); have hsz := HSZ5.out; have HB6 := sA (bel_box HB5.out (.cells #[.int .i64 0, .int .i64 0, .int .i64 0, .int .i64 0, .int .i64 0, .int .i64 0, .int .i64 0, .int .i64 0, .int .i64 0, .int .i64 0, .int .i64 0, .int .i64 0, .int .i64 0] 148)); have HKG6 := sA (blk_box HKG5.out (.cells #[.int .i64 0, .int .i64 0, .int .i64 0, .int .i64 0, .int .i64 0, .int .i64 0, .int .i64 0, .int .i64 0, .int .i64 0, .int .i64 0, .int .i64 0, .int .i64 0, .int .i64 0] 148)); have HKI6 := sA (blk_box HKI5.out (.cells #[.int .i64 0, .int .i64 0, .int .i64 0, .int .i64 0, .int .i64 0, .int .i64 0, .int .i64 0, .int .i64 0, .int .i64 0, .int .i64 0, .int .i64 0, .int .i64 0, .int .i64 0] 148)); have HKP6 := sA (blk_box HKP5.out (.cells #[.int .i64 0, .int .i64 0, .int .i64 0, .int .i64 0, .int .i64 0, .int .i64 0, .int .i64 0, .int .i64 0, .int .i64 0, .int .i64 0, .int .i64 0, .int .i64 0, .int .i64 0] 148)); have HR16 := sA (Kd.R_below HR15.out (bA (Below.refl _ _) (.cells #[.int .i64 0, .int .i64 0, .int .i64 0, .int .i64 0, .int .i64 0, .int .i64 0, .int .i64 0, .int .i64 0, .int .i64 0, .int .i64 0, .int .i64 0, .int .i64 0, .int .i64 0] 148))); have HR26 := sA (Kd.R_below HR25.out (bA (Below.refl _ _) (.cells #[.int .i64 0, .int .i64 0, .int .i64 0, .int .i64 0, .int .i64 0, .int .i64 0, .int .i64 0, .int .i64 0, .int .i64 0, .int .i64 0, .int .i64 0, .int .i64 0, .int .i64 0] 148))); have HR06 := sA (Kd.R_below HR05.out (bA (Below.refl _ _) (.cells #[.int .i64 0, .int .i64 0, .int .i64 0, .int .i64 0, .int .i64 0, .int .i64 0, .int .i64 0, .int .i64 0, .int .i64 0, .int .i64 0, .int .i64 0, .int .i64 0, .int .i64 0] 148))); have HSZ6 := sA (Nat.le_trans HSZ5.out (bA (Below.refl _ _) (.cells #[.int .i64 0, .int .i64 0, .int .i64 0, .int .i64 0, .int .i64 0, .int .i64 0, .int .i64 0, .int .i64 0, .int .i64 0, .int .i64 0, .int .i64 0, .int .i64 0, .int .i64 0] 148)).size); have HKA6 := sA (al_new w5 (.cells #[.int .i64 0, .int .i64 0, .int .i64 0, .int .i64 0, .int .i64 0, .int .i64 0, .int .i64 0, .int .i64 0, .int .i64 0, .int .i64 0, .int .i64 0, .int .i64 0, .int .i64 0] 148)); have HGKA := sA (Nat.le_trans HB5.out.size (Nat.le_refl w5.heap.size)); clear hsz; refine wpList_put1 rfl rfl _ _ _ rfl (g := g) (i := 14) (.int .i64 (-1)) rfl rfl rfl (by kernel_rfl) rfl HKG6.out (show 14 < 19 by decide) ?_; intro w7 hX hT hz; clear hz; clear kg1 kg2 ki1 ki2 kp1 kp2 cZV cZQ; (try simp only [List.setIfInBounds_toArray, List.set_cons_zero, List.set_cons_succ] at hX); have HB7 := sA (hT.below w0 (fun k hk => by rw [hk]; exact HGE.out.1) HB6.out); have HKI7 := sA (tK hT HKG6.out HKI6.out (by decide)); have HKP7 := sA (tK hT HKG6.out HKP6.out (by decide)); have HKA7 := sA (tK hT HKG6.out HKA6.out (by decide)); have HR17 := sA (row_tch HR16.out hT HKG6.out (by decide)); have HR27 := sA (row_tch HR26.out hT HKG6.out (by decide)); have HR07 := sA (row_tch HR06.out hT HKG6.out (by decide)); have HSZ7 := sA (Nat.le_trans HSZ6.out hT.size); have HKG7 := sA hX; clear hX hT; obtain ⟨kg1, kg2⟩ := lay0 HKG7.out; obtain ⟨ki1, ki2⟩ := lay0 HKI7.out; obtain ⟨kp1, kp2⟩ := lay0 HKP7.out; obtain ⟨ka1, ka2⟩ := lay0 HKA7.out; have cZV := pC HB7.out ZV.out; have cZQ := pC HB7.out ZQ.out) | ((with_reducible refine gate_store (t := 2) (p := 33) rfl ?_); refine wpList_put1 rfl rfl _ _ _ rfl (g := g) (i := 14) (.int .i64 (j : Int)) rfl (congrArg (Value.int .i64) YJ.out) rfl (by kernel_rfl) rfl HKG7.out (show 14 < 19 by decide) ?_; intro w8 hX hT hz; clear hz; clear kg1 kg2 ki1 ki2 kp1 kp2 ka1 ka2 cZV cZQ; (try simp only [List.setIfInBounds_toArray, List.set_cons_zero, List.set_cons_succ] at hX); have HB8 := sA (hT.below w0 (fun k hk => by rw [hk]; exact HGE.out.1) HB7.out); have HKI8 := sA (tK hT HKG7.out HKI7.out (by decide)); have HKP8 := sA (tK hT HKG7.out HKP7.out (by decide)); have HKA8 := sA (tK hT HKG7.out HKA7.out (by decide)); have HR18 := sA (row_tch HR17.out hT HKG7.out (by decide)); have HR28 := sA (row_tch HR27.out hT HKG7.out (by decide)); have HR08 := sA (row_tch HR07.out hT HKG7.out (by decide)); have HSZ8 := sA (Nat.le_trans HSZ7.out hT.size); have HKG8 := sA hX; clear hX hT; obtain ⟨kg1, kg2⟩ := lay0 HKG8.out; obtain ⟨ki1, ki2⟩ := lay0 HKI8.out; obtain ⟨kp1, kp2⟩ := lay0 HKP8.out; obtain ⟨ka1, ka2⟩ := lay0 HKA8.out; have cZV := pC HB8.out ZV.out; have cZQ := pC HB8.out ZQ.out) | (go_at_call 104; refine (impl_flag _ _).mono ?_; rintro e w' ⟨rfl, rfl⟩) | ((with_reducible refine gate_store (t := 2) (p := 46) rfl ?_); refine wpList_put1 rfl rfl _ _ _ rfl (g := w5.heap.size) (i := 11) (.int .i64 (bitI bp)) rfl (congrArg (fun b => Value.int .i64 (bitI b)) YP.out) rfl (by kernel_rfl) rfl HKA8.out (show 11 < 13 by decide) ?_; intro w9 hX hT hz; clear hz; clear kg1 kg2 ki1 ki2 kp1 kp2 ka1 ka2 cZV cZQ; (try simp only [List.setIfInBounds_toArray, List.set_cons_zero, List.set_cons_succ] at hX); have HB9 := sA (hT.below w0 (fun k hk => by rw [hk]; exact HGKA.out) HB8.out); have HKG9 := sA (tK hT HKA8.out HKG8.out (by decide)); have HKI9 := sA (tK hT HKA8.out HKI8.out (by decide)); have HKP9 := sA (tK hT HKA8.out HKP8.out (by decide)); have HR19 := sA (row_tch HR18.out hT HKA8.out (by decide)); have HR29 := sA (row_tch HR28.out hT HKA8.out (by decide)); have HR09 := sA (row_tch HR08.out hT HKA8.out (by decide)); have HSZ9 := sA (Nat.le_trans HSZ8.out hT.size); have HKA9 := sA hX; clear hX hT; obtain ⟨kg1, kg2⟩ := lay0 HKG9.out; obtain ⟨ki1, ki2⟩ := lay0 HKI9.out; obtain ⟨kp1, kp2⟩ := lay0 HKP9.out; obtain ⟨ka1, ka2⟩ := lay0 HKA9.out; have cZV := pC HB9.out ZV.out; have cZQ := pC HB9.out ZQ.out) | ((with_reducible refine gate_store (t := 2) (p := 47) rfl ?_); refine wpList_put1 rfl rfl _ _ _ rfl (g := w5.heap.size) (i := 12) (.int .i64 (bitI bd)) rfl (congrArg (fun b => Value.int .i64 (bitI b)) YD.out) rfl (by kernel_rfl) rfl HKA9.out (show 12 < 13 by decide) ?_; intro w10 hX hT hz; clear hz; clear kg1 kg2 ki1 ki2 kp1 kp2 ka1 ka2 cZV cZQ; (try simp only [List.setIfInBounds_toArray, List.set_cons_zero, List.set_cons_succ] at hX); have HB10 := sA (hT.below w0 (fun k hk => by rw [hk]; exact HGKA.out) HB9.out); have HKG10 := sA (tK hT HKA9.out HKG9.out (by decide)); have HKI10 := sA (tK hT HKA9.out HKI9.out (by decide)); have HKP10 := sA (tK hT HKA9.out HKP9.out (by decide)); have HR110 := sA (row_tch HR19.out hT HKA9.out (by decide)); have HR210 := sA (row_tch HR29.out hT HKA9.out (by decide)); have HR010 := sA (row_tch HR09.out hT HKA9.out (by decide)); have HSZ10 := sA (Nat.le_trans HSZ9.out hT.size); have HKA10 := sA hX; clear hX hT; obtain ⟨kg1, kg2⟩ := lay0 HKG10.out; obtain ⟨ki1, ki2⟩ := lay0 HKI10.out; obtain ⟨kp1, kp2⟩ := lay0 HKP10.out; obtain ⟨ka1, ka2⟩ := lay0 HKA10.out; have cZV := pC HB10.out ZV.out; have cZQ := pC HB10.out ZQ.out))
  clear kg1 kg2 ki1 ki2 kp1 kp2 ka1 ka2 cZV cZQ
  generalize w3.heap.size = pb at *
  generalize w5.heap.size = ab at *
  refine Grow.wp_region_tail 10 (by kernel_rfl) (by kernel_rfl) ?_
  dsimp only [List.take, List.drop]
  repeat ((first | (refine Grow.lexP_do _ (by rfl) (by rfl) (by intro W hj; obtain ⟨kg1, kg2⟩ := lay hj.out HKG10.out; obtain ⟨ki1, ki2⟩ := lay hj.out HKI10.out; obtain ⟨kp1, kp2⟩ := lay hj.out HKP10.out; obtain ⟨ka1, ka2⟩ := lay hj.out HKA10.out; have cZV := pC (bC HB10.out hj.out) ZV.out; have cZQ := pC (bC HB10.out hj.out) ZQ.out; go_simp; first | exact Grow.UponB.val) ?_)); refine Grow.lexP_norm (fun K hK => ?_); go_simp; refine hK _ ?_; clear hK K)
  refine Grow.lexP_nil (fun w11 hj => ?_)
  have hb := hj.out; clear hj
  have HB11 := sA (bC HB10.out hb); have HKG11 := sA (bB HKG10.out hb); have HKI11 := sA (bB HKI10.out hb); have HKP11 := sA (bB HKP10.out hb); have HKA11 := sA (bB HKA10.out hb); have HR111 := sA (Kd.R_below HR110.out hb); have HR211 := sA (Kd.R_below HR210.out hb); have HR011 := sA (Kd.R_below HR010.out hb); have HSZ11 := sA (Nat.le_trans HSZ10.out hb.size); clear hb
  obtain ⟨kg1, kg2⟩ := lay0 HKG11.out
  obtain ⟨ki1, ki2⟩ := lay0 HKI11.out
  obtain ⟨kp1, kp2⟩ := lay0 HKP11.out
  obtain ⟨ka1, ka2⟩ := lay0 HKA11.out
  have cZV := pC HB11.out ZV.out
  have cZQ := pC HB11.out ZQ.out
  go_wp2_with ((with_reducible refine gate_store (t := 2) (p := 57) rfl ?_); refine wpList_put1 rfl rfl _ _ _ rfl (g := ab) (i := 5) (.int .i64 zs) rfl rfl rfl (by kernel_rfl) rfl HKA11.out (show 5 < 13 by decide) ?_; intro w12 hX hT hz; clear hz; clear kg1 kg2 ki1 ki2 kp1 kp2 ka1 ka2 cZV cZQ; (try simp only [List.setIfInBounds_toArray, List.set_cons_zero, List.set_cons_succ] at hX); have HB12 := sA (hT.below w0 (fun k hk => by rw [hk]; exact HGKA.out) HB11.out); have HKG12 := sA (tK hT HKA11.out HKG11.out (by decide)); have HKI12 := sA (tK hT HKA11.out HKI11.out (by decide)); have HKP12 := sA (tK hT HKA11.out HKP11.out (by decide)); have HR112 := sA (row_tch HR111.out hT HKA11.out (by decide)); have HR212 := sA (row_tch HR211.out hT HKA11.out (by decide)); have HR012 := sA (row_tch HR011.out hT HKA11.out (by decide)); have HSZ12 := sA (Nat.le_trans HSZ11.out hT.size); have HKA12 := sA hX; clear hX hT; obtain ⟨kg1, kg2⟩ := lay0 HKG12.out; obtain ⟨ki1, ki2⟩ := lay0 HKI12.out; obtain ⟨kp1, kp2⟩ := lay0 HKP12.out; obtain ⟨ka1, ka2⟩ := lay0 HKA12.out; have cZV := pC HB12.out ZV.out; have cZQ := pC HB12.out ZQ.out)
  clear kg1 kg2 ki1 ki2 kp1 kp2 ka1 ka2 cZV cZQ
  refine Grow.wp_region_tail 9 (by kernel_rfl) (by kernel_rfl) ?_
  dsimp only [List.take, List.drop]
  repeat ((first | (refine Grow.lexP_do _ (by rfl) (by rfl) (by intro W hj; obtain ⟨kg1, kg2⟩ := lay hj.out HKG12.out; obtain ⟨ki1, ki2⟩ := lay hj.out HKI12.out; obtain ⟨kp1, kp2⟩ := lay hj.out HKP12.out; obtain ⟨ka1, ka2⟩ := lay hj.out HKA12.out; have cZV := pC (bC HB12.out hj.out) ZV.out; have cZQ := pC (bC HB12.out hj.out) ZQ.out; go_simp; first | exact Grow.UponB.val | (have cc := impl_travel W _ x (HXI.out.below (bC HB12.out hj.out)) HF.out.1 HF.out.2.1 HF.out.2.2.1 HF.out.2.2.2.1 HSO.out nd k HF.out.2.2.2.2.1 HF.out.2.2.2.2.2 (Int.natCast_nonneg _) HND.out; with_reducible exact Grow.UponB.call cc)) ?_)); refine Grow.lexP_norm (fun K hK => ?_); go_simp; refine hK _ ?_; clear hK K)
  refine Grow.lexP_nil (fun w13 hj => ?_)
  have hb := hj.out; clear hj
  have HB13 := sA (bC HB12.out hb); have HKG13 := sA (bB HKG12.out hb); have HKI13 := sA (bB HKI12.out hb); have HKP13 := sA (bB HKP12.out hb); have HKA13 := sA (bB HKA12.out hb); have HR113 := sA (Kd.R_below HR112.out hb); have HR213 := sA (Kd.R_below HR212.out hb); have HR013 := sA (Kd.R_below HR012.out hb); have HSZ13 := sA (Nat.le_trans HSZ12.out hb.size); clear hb
  generalize hlg : x.leg nd k = lg at *
  have HLG := sA hlg; clear hlg
  obtain ⟨kg1, kg2⟩ := lay0 HKG13.out
  obtain ⟨ki1, ki2⟩ := lay0 HKI13.out
  obtain ⟨kp1, kp2⟩ := lay0 HKP13.out
  obtain ⟨ka1, ka2⟩ := lay0 HKA13.out
  have cZV := pC HB13.out ZV.out
  have cZQ := pC HB13.out ZQ.out
  go_wp2_with ((with_reducible refine gate_store (t := 2) (p := 78) rfl ?_); refine wpList_put1 rfl rfl _ _ _ rfl (g := ab) (i := 1) (.int .i64 lg) rfl rfl rfl (by kernel_rfl) rfl HKA13.out (show 1 < 13 by decide) ?_; intro w14 hX hT hz; clear hz; clear kg1 kg2 ki1 ki2 kp1 kp2 ka1 ka2 cZV cZQ; (try simp only [List.setIfInBounds_toArray, List.set_cons_zero, List.set_cons_succ] at hX); have HB14 := sA (hT.below w0 (fun k hk => by rw [hk]; exact HGKA.out) HB13.out); have HKG14 := sA (tK hT HKA13.out HKG13.out (by decide)); have HKI14 := sA (tK hT HKA13.out HKI13.out (by decide)); have HKP14 := sA (tK hT HKA13.out HKP13.out (by decide)); have HR114 := sA (row_tch HR113.out hT HKA13.out (by decide)); have HR214 := sA (row_tch HR213.out hT HKA13.out (by decide)); have HR014 := sA (row_tch HR013.out hT HKA13.out (by decide)); have HSZ14 := sA (Nat.le_trans HSZ13.out hT.size); have HKA14 := sA hX; clear hX hT; obtain ⟨kg1, kg2⟩ := lay0 HKG14.out; obtain ⟨ki1, ki2⟩ := lay0 HKI14.out; obtain ⟨kp1, kp2⟩ := lay0 HKP14.out; obtain ⟨ka1, ka2⟩ := lay0 HKA14.out; have cZV := pC HB14.out ZV.out; have cZQ := pC HB14.out ZQ.out)
  clear kg1 kg2 ki1 ki2 kp1 kp2 ka1 ka2 cZV cZQ
  refine Grow.wp_region_tail 17 (by kernel_rfl) (by kernel_rfl) ?_
  dsimp only [List.take, List.drop]
  repeat ((first | (refine Grow.lexP_do _ (by rfl) (by rfl) (by intro W hj; obtain ⟨kg1, kg2⟩ := lay hj.out HKG14.out; obtain ⟨ki1, ki2⟩ := lay hj.out HKI14.out; obtain ⟨kp1, kp2⟩ := lay hj.out HKP14.out; obtain ⟨ka1, ka2⟩ := lay hj.out HKA14.out; have cZV := pC (bC HB14.out hj.out) ZV.out; have cZQ := pC (bC HB14.out hj.out) ZQ.out; go_simp; first | exact Grow.UponB.val | (have cc := impl_place W _ x (HXI.out.below (bC HB14.out hj.out)) HF.out.1 HF.out.2.1 nd HF.out.2.2.2.2.1 HF.out.2.2.2.2.2; with_reducible exact Grow.UponB.call cc) | (have cc := impl_SatAdd W t (x.placeAt nd).h; with_reducible exact Grow.UponB.call (cc.mono fun e w' h => ⟨h.1, h.2 ▸ Below.refl _ _⟩)) | (have cc := impl_SatAdd W (satAdd t (x.placeAt nd).h) lg; with_reducible exact Grow.UponB.call (cc.mono fun e w' h => ⟨h.1, h.2 ▸ Below.refl _ _⟩))) ?_)); refine Grow.lexP_norm (fun K hK => ?_); go_simp; refine hK _ ?_; clear hK K)
  refine Grow.lexP_nil (fun w15 hj => ?_)
  have hb := hj.out; clear hj
  have HB15 := sA (bC HB14.out hb); have HKG15 := sA (bB HKG14.out hb); have HKI15 := sA (bB HKI14.out hb); have HKP15 := sA (bB HKP14.out hb); have HKA15 := sA (bB HKA14.out hb); have HR115 := sA (Kd.R_below HR114.out hb); have HR215 := sA (Kd.R_below HR214.out hb); have HR015 := sA (Kd.R_below HR014.out hb); have HSZ15 := sA (Nat.le_trans HSZ14.out hb.size); clear hb
  generalize hth : satAdd (satAdd t (x.placeAt nd).h) lg = th at *
  have hbt : -1000000000 ≤ th ∧ th ≤ 1000000000 := by rw [← hth]; exact clamp_bd _
  have qmx := max_if pl.o th
  have qth : IntKind.i64.wrap (-th) = -th := IntWalk.i64_in _ (by omega)
  have HTH := sA hth; clear hth hbt
  obtain ⟨kg1, kg2⟩ := lay0 HKG15.out
  obtain ⟨ki1, ki2⟩ := lay0 HKI15.out
  obtain ⟨kp1, kp2⟩ := lay0 HKP15.out
  obtain ⟨ka1, ka2⟩ := lay0 HKA15.out
  have cZV := pC HB15.out ZV.out
  have cZQ := pC HB15.out ZQ.out
  go_wp2_with (first | ((with_reducible refine gate_store (t := 2) (p := 103) rfl ?_); refine wpList_put1 rfl rfl _ _ _ rfl (g := g) (i := 2) (.int .i64 (maxI pl.o th)) rfl rfl rfl (by kernel_rfl) rfl HKG15.out (show 2 < 19 by decide) ?_; intro w16 hX hT hz; clear hz; clear kg1 kg2 ki1 ki2 kp1 kp2 ka1 ka2 cZV cZQ; (try simp only [List.setIfInBounds_toArray, List.set_cons_zero, List.set_cons_succ] at hX); have HB16 := sA (hT.below w0 (fun k hk => by rw [hk]; exact HGE.out.1) HB15.out); have HKI16 := sA (tK hT HKG15.out HKI15.out (by decide)); have HKP16 := sA (tK hT HKG15.out HKP15.out (by decide)); have HKA16 := sA (tK hT HKG15.out HKA15.out (by decide)); have HR116 := sA (row_tch HR115.out hT HKG15.out (by decide)); have HR216 := sA (row_tch HR215.out hT HKG15.out (by decide)); have HR016 := sA (row_tch HR015.out hT HKG15.out (by decide)); have HSZ16 := sA (Nat.le_trans HSZ15.out hT.size); have HKG16 := sA hX; clear hX hT; obtain ⟨kg1, kg2⟩ := lay0 HKG16.out; obtain ⟨ki1, ki2⟩ := lay0 HKI16.out; obtain ⟨kp1, kp2⟩ := lay0 HKP16.out; obtain ⟨ka1, ka2⟩ := lay0 HKA16.out; have cZV := pC HB16.out ZV.out; have cZQ := pC HB16.out ZQ.out) | (go_at_call 106; refine (impl_SatAdd _ _ _).mono ?_; rintro e w' ⟨rfl, rfl⟩) | ((with_reducible refine gate_store (t := 2) (p := 112) rfl ?_); refine wpList_put1 rfl rfl _ _ _ rfl (g := ab) (i := 2) (.int .i64 (satAdd (maxI pl.o th) (-th))) rfl rfl rfl (by kernel_rfl) rfl HKA16.out (show 2 < 13 by decide) ?_; intro w17 hX hT hz; clear hz; clear kg1 kg2 ki1 ki2 kp1 kp2 ka1 ka2 cZV cZQ; (try simp only [List.setIfInBounds_toArray, List.set_cons_zero, List.set_cons_succ] at hX); have HB17 := sA (hT.below w0 (fun k hk => by rw [hk]; exact HGKA.out) HB16.out); have HKG17 := sA (tK hT HKA16.out HKG16.out (by decide)); have HKI17 := sA (tK hT HKA16.out HKI16.out (by decide)); have HKP17 := sA (tK hT HKA16.out HKP16.out (by decide)); have HR117 := sA (row_tch HR116.out hT HKA16.out (by decide)); have HR217 := sA (row_tch HR216.out hT HKA16.out (by decide)); have HR017 := sA (row_tch HR016.out hT HKA16.out (by decide)); have HSZ17 := sA (Nat.le_trans HSZ16.out hT.size); have HKA17 := sA hX; clear hX hT; obtain ⟨kg1, kg2⟩ := lay0 HKG17.out; obtain ⟨ki1, ki2⟩ := lay0 HKI17.out; obtain ⟨kp1, kp2⟩ := lay0 HKP17.out; obtain ⟨ka1, ka2⟩ := lay0 HKA17.out; have cZV := pC HB17.out ZV.out; have cZQ := pC HB17.out ZQ.out))
  clear kg1 kg2 ki1 ki2 kp1 kp2 ka1 ka2 cZV cZQ
  refine Grow.wp_region_tail 12 (by kernel_rfl) (by kernel_rfl) ?_
  dsimp only [List.take, List.drop]
  repeat ((first | (refine Grow.lexP_do _ (by rfl) (by rfl) (by intro W hj; obtain ⟨kg1, kg2⟩ := lay hj.out HKG17.out; obtain ⟨ki1, ki2⟩ := lay hj.out HKI17.out; obtain ⟨kp1, kp2⟩ := lay hj.out HKP17.out; obtain ⟨ka1, ka2⟩ := lay hj.out HKA17.out; have cZV := pC (bC HB17.out hj.out) ZV.out; have cZQ := pC (bC HB17.out hj.out) ZQ.out; go_simp; first | exact Grow.UponB.val | (have cc := impl_SatAdd W d lg; with_reducible exact Grow.UponB.call (cc.mono fun e w' h => ⟨h.1, h.2 ▸ Below.refl _ _⟩))) ?_)); refine Grow.lexP_norm (fun K hK => ?_); go_simp; refine hK _ ?_; clear hK K)
  refine Grow.lexP_nil (fun w18 hj => ?_)
  have hb := hj.out; clear hj
  have HB18 := sA (bC HB17.out hb); have HKG18 := sA (bB HKG17.out hb); have HKI18 := sA (bB HKI17.out hb); have HKP18 := sA (bB HKP17.out hb); have HKA18 := sA (bB HKA17.out hb); have HR118 := sA (Kd.R_below HR117.out hb); have HR218 := sA (Kd.R_below HR217.out hb); have HR018 := sA (Kd.R_below HR017.out hb); have HSZ18 := sA (Nat.le_trans HSZ17.out hb.size); clear hb
  obtain ⟨kg1, kg2⟩ := lay0 HKG18.out
  obtain ⟨ki1, ki2⟩ := lay0 HKI18.out
  obtain ⟨kp1, kp2⟩ := lay0 HKP18.out
  obtain ⟨ka1, ka2⟩ := lay0 HKA18.out
  have cZV := pC HB18.out ZV.out
  have cZQ := pC HB18.out ZQ.out
  go_wp2_with ((with_reducible refine gate_store (t := 2) (p := 124) rfl ?_); refine wpList_put1 rfl rfl _ _ _ rfl (g := g) (i := 3) (.int .i64 (satAdd d lg)) rfl rfl rfl (by kernel_rfl) rfl HKG18.out (show 3 < 19 by decide) ?_; intro w19 hX hT hz; clear hz; clear kg1 kg2 ki1 ki2 kp1 kp2 ka1 ka2 cZV cZQ; (try simp only [List.setIfInBounds_toArray, List.set_cons_zero, List.set_cons_succ] at hX); have HB19 := sA (hT.below w0 (fun k hk => by rw [hk]; exact HGE.out.1) HB18.out); have HKI19 := sA (tK hT HKG18.out HKI18.out (by decide)); have HKP19 := sA (tK hT HKG18.out HKP18.out (by decide)); have HKA19 := sA (tK hT HKG18.out HKA18.out (by decide)); have HR119 := sA (row_tch HR118.out hT HKG18.out (by decide)); have HR219 := sA (row_tch HR218.out hT HKG18.out (by decide)); have HR019 := sA (row_tch HR018.out hT HKG18.out (by decide)); have HSZ19 := sA (Nat.le_trans HSZ18.out hT.size); have HKG19 := sA hX; clear hX hT; obtain ⟨kg1, kg2⟩ := lay0 HKG19.out; obtain ⟨ki1, ki2⟩ := lay0 HKI19.out; obtain ⟨kp1, kp2⟩ := lay0 HKP19.out; obtain ⟨ka1, ka2⟩ := lay0 HKA19.out; have cZV := pC HB19.out ZV.out; have cZQ := pC HB19.out ZQ.out)
  clear kg1 kg2 ki1 ki2 kp1 kp2 ka1 ka2 cZV cZQ
  obtain ⟨qs1, qs2⟩ := HQS.out
  refine Grow.wp_region_tail 18 (by kernel_rfl) (by kernel_rfl) ?_
  dsimp only [List.take, List.drop]
  repeat ((first | (refine Grow.lexP_do _ (by rfl) (by rfl) (by intro W hj; obtain ⟨kg1, kg2⟩ := lay hj.out HKG19.out; obtain ⟨ki1, ki2⟩ := lay hj.out HKI19.out; obtain ⟨kp1, kp2⟩ := lay hj.out HKP19.out; obtain ⟨ka1, ka2⟩ := lay hj.out HKA19.out; have cZV := pC (bC HB19.out hj.out) ZV.out; have cZQ := pC (bC HB19.out hj.out) ZQ.out; go_simp; first | exact Grow.UponB.val | (have cc := impl_SatAdd W l (zs * (bitI bp - bitI bd)); with_reducible exact Grow.UponB.call (cc.mono fun e w' h => ⟨h.1, h.2 ▸ Below.refl _ _⟩))) ?_)); refine Grow.lexP_norm (fun K hK => ?_); go_simp; refine hK _ ?_; clear hK K)
  refine Grow.lexP_nil (fun w20 hj => ?_)
  have hb := hj.out; clear hj
  have HB20 := sA (bC HB19.out hb); have HKG20 := sA (bB HKG19.out hb); have HKI20 := sA (bB HKI19.out hb); have HKP20 := sA (bB HKP19.out hb); have HKA20 := sA (bB HKA19.out hb); have HR120 := sA (Kd.R_below HR119.out hb); have HR220 := sA (Kd.R_below HR219.out hb); have HR020 := sA (Kd.R_below HR019.out hb); have HSZ20 := sA (Nat.le_trans HSZ19.out hb.size); clear hb
  clear qs1 qs2
  obtain ⟨kg1, kg2⟩ := lay0 HKG20.out
  obtain ⟨ki1, ki2⟩ := lay0 HKI20.out
  obtain ⟨kp1, kp2⟩ := lay0 HKP20.out
  obtain ⟨ka1, ka2⟩ := lay0 HKA20.out
  have cZV := pC HB20.out ZV.out
  have cZQ := pC HB20.out ZQ.out
  go_wp2_with (first | ((with_reducible refine gate_store (t := 2) (p := 142) rfl ?_); refine wpList_put1 rfl rfl _ _ _ rfl (g := g) (i := 4) (.int .i64 (satAdd l (zs * (bitI bp - bitI bd)))) rfl rfl rfl (by kernel_rfl) rfl HKG20.out (show 4 < 19 by decide) ?_; intro w21 hX hT hz; clear hz; clear kg1 kg2 ki1 ki2 kp1 kp2 ka1 ka2 cZV cZQ; (try simp only [List.setIfInBounds_toArray, List.set_cons_zero, List.set_cons_succ] at hX); have HB21 := sA (hT.below w0 (fun k hk => by rw [hk]; exact HGE.out.1) HB20.out); have HKI21 := sA (tK hT HKG20.out HKI20.out (by decide)); have HKP21 := sA (tK hT HKG20.out HKP20.out (by decide)); have HKA21 := sA (tK hT HKG20.out HKA20.out (by decide)); have HR121 := sA (row_tch HR120.out hT HKG20.out (by decide)); have HR221 := sA (row_tch HR220.out hT HKG20.out (by decide)); have HR021 := sA (row_tch HR020.out hT HKG20.out (by decide)); have HSZ21 := sA (Nat.le_trans HSZ20.out hT.size); have HKG21 := sA hX; clear hX hT; obtain ⟨kg1, kg2⟩ := lay0 HKG21.out; obtain ⟨ki1, ki2⟩ := lay0 HKI21.out; obtain ⟨kp1, kp2⟩ := lay0 HKP21.out; obtain ⟨ka1, ka2⟩ := lay0 HKA21.out; have cZV := pC HB21.out ZV.out; have cZQ := pC HB21.out ZQ.out) | ((with_reducible refine gate_store (t := 2) (p := 151) rfl ?_); refine wpList_put1 rfl rfl _ _ _ rfl (g := g) (i := 0) (.int .i64 (p + 1)) rfl rfl rfl (by kernel_rfl) rfl HKG21.out (show 0 < 19 by decide) ?_; intro w22 hX hT hz; clear hz; clear kg1 kg2 ki1 ki2 kp1 kp2 ka1 ka2 cZV cZQ; (try simp only [List.setIfInBounds_toArray, List.set_cons_zero, List.set_cons_succ] at hX); have HB22 := sA (hT.below w0 (fun k hk => by rw [hk]; exact HGE.out.1) HB21.out); have HKI22 := sA (tK hT HKG21.out HKI21.out (by decide)); have HKP22 := sA (tK hT HKG21.out HKP21.out (by decide)); have HKA22 := sA (tK hT HKG21.out HKA21.out (by decide)); have HR122 := sA (row_tch HR121.out hT HKG21.out (by decide)); have HR222 := sA (row_tch HR221.out hT HKG21.out (by decide)); have HR022 := sA (row_tch HR021.out hT HKG21.out (by decide)); have HSZ22 := sA (Nat.le_trans HSZ21.out hT.size); have HKG22 := sA hX; clear hX hT; obtain ⟨kg1, kg2⟩ := lay0 HKG22.out; obtain ⟨ki1, ki2⟩ := lay0 HKI22.out; obtain ⟨kp1, kp2⟩ := lay0 HKP22.out; obtain ⟨ka1, ka2⟩ := lay0 HKA22.out; have cZV := pC HB22.out ZV.out; have cZQ := pC HB22.out ZQ.out) | ((with_reducible refine gate_store (t := 2) (p := 156) rfl ?_); refine wpList_put1 rfl rfl _ _ _ rfl (g := g) (i := 1) (.int .i64 k) rfl rfl rfl (by kernel_rfl) rfl HKG22.out (show 1 < 19 by decide) ?_; intro w23 hX hT hz; clear hz; clear kg1 kg2 ki1 ki2 kp1 kp2 ka1 ka2 cZV cZQ; (try simp only [List.setIfInBounds_toArray, List.set_cons_zero, List.set_cons_succ] at hX); have HB23 := sA (hT.below w0 (fun k hk => by rw [hk]; exact HGE.out.1) HB22.out); have HKI23 := sA (tK hT HKG22.out HKI22.out (by decide)); have HKP23 := sA (tK hT HKG22.out HKP22.out (by decide)); have HKA23 := sA (tK hT HKG22.out HKA22.out (by decide)); have HR123 := sA (row_tch HR122.out hT HKG22.out (by decide)); have HR223 := sA (row_tch HR222.out hT HKG22.out (by decide)); have HR023 := sA (row_tch HR022.out hT HKG22.out (by decide)); have HSZ23 := sA (Nat.le_trans HSZ22.out hT.size); have HKG23 := sA hX; clear hX hT; obtain ⟨kg1, kg2⟩ := lay0 HKG23.out; obtain ⟨ki1, ki2⟩ := lay0 HKI23.out; obtain ⟨kp1, kp2⟩ := lay0 HKP23.out; obtain ⟨ka1, ka2⟩ := lay0 HKA23.out; have cZV := pC HB23.out ZV.out; have cZQ := pC HB23.out ZQ.out))
  clear kg1 kg2 ki1 ki2 kp1 kp2 ka1 ka2 cZV cZQ
  refine Grow.wp_region_tail 20 (by kernel_rfl) (by kernel_rfl) ?_
  dsimp only [List.take, List.drop]
  repeat ((first | (refine Grow.lexP_do _ (by rfl) (by rfl) (by intro W hj; obtain ⟨kg1, kg2⟩ := lay hj.out HKG23.out; obtain ⟨ki1, ki2⟩ := lay hj.out HKI23.out; obtain ⟨kp1, kp2⟩ := lay hj.out HKP23.out; obtain ⟨ka1, ka2⟩ := lay hj.out HKA23.out; have cZV := pC (bC HB23.out hj.out) ZV.out; have cZQ := pC (bC HB23.out hj.out) ZQ.out; go_simp; first | exact Grow.UponB.val) ?_)); refine Grow.lexP_norm (fun K hK => ?_); go_simp; refine hK _ ?_; clear hK K)
  refine Grow.lexP_nil (fun w24 hj => ?_)
  have hb := hj.out; clear hj
  have HB24 := sA (bC HB23.out hb); have HKG24 := sA (bB HKG23.out hb); have HKI24 := sA (bB HKI23.out hb); have HKP24 := sA (bB HKP23.out hb); have HKA24 := sA (bB HKA23.out hb); have HR124 := sA (Kd.R_below HR123.out hb); have HR224 := sA (Kd.R_below HR223.out hb); have HR024 := sA (Kd.R_below HR023.out hb); have HSZ24 := sA (Nat.le_trans HSZ23.out hb.size); clear hb
  obtain ⟨kg1, kg2⟩ := lay0 HKG24.out
  obtain ⟨ki1, ki2⟩ := lay0 HKI24.out
  obtain ⟨kp1, kp2⟩ := lay0 HKP24.out
  obtain ⟨ka1, ka2⟩ := lay0 HKA24.out
  have cZV := pC HB24.out ZV.out
  have cZQ := pC HB24.out ZQ.out
  go_wp2_with (first | ((with_reducible refine gate_store (t := 2) (p := 177) rfl ?_); refine wpList_put1 rfl rfl _ _ _ rfl (g := ab) (i := 0) (.int .i64 (maxI pl.o th)) rfl rfl rfl (by kernel_rfl) rfl HKA24.out (show 0 < 13 by decide) ?_; intro w25 hX hT hz; clear hz; clear kg1 kg2 ki1 ki2 kp1 kp2 ka1 ka2 cZV cZQ; (try simp only [List.setIfInBounds_toArray, List.set_cons_zero, List.set_cons_succ] at hX); have HB25 := sA (hT.below w0 (fun k hk => by rw [hk]; exact HGKA.out) HB24.out); have HKG25 := sA (tK hT HKA24.out HKG24.out (by decide)); have HKI25 := sA (tK hT HKA24.out HKI24.out (by decide)); have HKP25 := sA (tK hT HKA24.out HKP24.out (by decide)); have HR125 := sA (row_tch HR124.out hT HKA24.out (by decide)); have HR225 := sA (row_tch HR224.out hT HKA24.out (by decide)); have HR025 := sA (row_tch HR024.out hT HKA24.out (by decide)); have HSZ25 := sA (Nat.le_trans HSZ24.out hT.size); have HKA25 := sA hX; clear hX hT; obtain ⟨kg1, kg2⟩ := lay0 HKG25.out; obtain ⟨ki1, ki2⟩ := lay0 HKI25.out; obtain ⟨kp1, kp2⟩ := lay0 HKP25.out; obtain ⟨ka1, ka2⟩ := lay0 HKA25.out; have cZV := pC HB25.out ZV.out; have cZQ := pC HB25.out ZQ.out) | ((with_reducible refine gate_store (t := 2) (p := 178) rfl ?_); refine wpList_put1 rfl rfl _ _ _ rfl (g := ab) (i := 3) (.int .i64 (satAdd d lg)) rfl rfl rfl (by kernel_rfl) rfl HKA25.out (show 3 < 13 by decide) ?_; intro w26 hX hT hz; clear hz; clear kg1 kg2 ki1 ki2 kp1 kp2 ka1 ka2 cZV cZQ; (try simp only [List.setIfInBounds_toArray, List.set_cons_zero, List.set_cons_succ] at hX); have HB26 := sA (hT.below w0 (fun k hk => by rw [hk]; exact HGKA.out) HB25.out); have HKG26 := sA (tK hT HKA25.out HKG25.out (by decide)); have HKI26 := sA (tK hT HKA25.out HKI25.out (by decide)); have HKP26 := sA (tK hT HKA25.out HKP25.out (by decide)); have HR126 := sA (row_tch HR125.out hT HKA25.out (by decide)); have HR226 := sA (row_tch HR225.out hT HKA25.out (by decide)); have HR026 := sA (row_tch HR025.out hT HKA25.out (by decide)); have HSZ26 := sA (Nat.le_trans HSZ25.out hT.size); have HKA26 := sA hX; clear hX hT; obtain ⟨kg1, kg2⟩ := lay0 HKG26.out; obtain ⟨ki1, ki2⟩ := lay0 HKI26.out; obtain ⟨kp1, kp2⟩ := lay0 HKP26.out; obtain ⟨ka1, ka2⟩ := lay0 HKA26.out; have cZV := pC HB26.out ZV.out; have cZQ := pC HB26.out ZQ.out) | ((with_reducible refine gate_store (t := 2) (p := 179) rfl ?_); refine wpList_put1 rfl rfl _ _ _ rfl (g := ab) (i := 4) (.int .i64 (satAdd l (zs * (bitI bp - bitI bd)))) rfl rfl rfl (by kernel_rfl) rfl HKA26.out (show 4 < 13 by decide) ?_; intro w27 hX hT hz; clear hz; clear kg1 kg2 ki1 ki2 kp1 kp2 ka1 ka2 cZV cZQ; (try simp only [List.setIfInBounds_toArray, List.set_cons_zero, List.set_cons_succ] at hX); have HB27 := sA (hT.below w0 (fun k hk => by rw [hk]; exact HGKA.out) HB26.out); have HKG27 := sA (tK hT HKA26.out HKG26.out (by decide)); have HKI27 := sA (tK hT HKA26.out HKI26.out (by decide)); have HKP27 := sA (tK hT HKA26.out HKP26.out (by decide)); have HR127 := sA (row_tch HR126.out hT HKA26.out (by decide)); have HR227 := sA (row_tch HR226.out hT HKA26.out (by decide)); have HR027 := sA (row_tch HR026.out hT HKA26.out (by decide)); have HSZ27 := sA (Nat.le_trans HSZ26.out hT.size); have HKA27 := sA hX; clear hX hT; obtain ⟨kg1, kg2⟩ := lay0 HKG27.out; obtain ⟨ki1, ki2⟩ := lay0 HKI27.out; obtain ⟨kp1, kp2⟩ := lay0 HKP27.out; obtain ⟨ka1, ka2⟩ := lay0 HKA27.out; have cZV := pC HB27.out ZV.out; have cZQ := pC HB27.out ZQ.out) | ((with_reducible refine gate_store (t := 2) (p := 180) rfl ?_); refine wpList_put1 rfl rfl _ _ _ rfl (g := ab) (i := 10) (.int .i64 (p + 1)) rfl rfl rfl (by kernel_rfl) rfl HKA27.out (show 10 < 13 by decide) ?_; intro w28 hX hT hz; clear hz; clear kg1 kg2 ki1 ki2 kp1 kp2 ka1 ka2 cZV cZQ; (try simp only [List.setIfInBounds_toArray, List.set_cons_zero, List.set_cons_succ] at hX); have HB28 := sA (hT.below w0 (fun k hk => by rw [hk]; exact HGKA.out) HB27.out); have HKG28 := sA (tK hT HKA27.out HKG27.out (by decide)); have HKI28 := sA (tK hT HKA27.out HKI27.out (by decide)); have HKP28 := sA (tK hT HKA27.out HKP27.out (by decide)); have HR128 := sA (row_tch HR127.out hT HKA27.out (by decide)); have HR228 := sA (row_tch HR227.out hT HKA27.out (by decide)); have HR028 := sA (row_tch HR027.out hT HKA27.out (by decide)); have HSZ28 := sA (Nat.le_trans HSZ27.out hT.size); have HKA28 := sA hX; clear hX hT; obtain ⟨kg1, kg2⟩ := lay0 HKG28.out; obtain ⟨ki1, ki2⟩ := lay0 HKI28.out; obtain ⟨kp1, kp2⟩ := lay0 HKP28.out; obtain ⟨ka1, ka2⟩ := lay0 HKA28.out; have cZV := pC HB28.out ZV.out; have cZQ := pC HB28.out ZQ.out))
  clear kg1 kg2 ki1 ki2 kp1 kp2 ka1 ka2 cZV cZQ
  clear qmx qth
  refine Grow.wp_region_cells (fun a f => (Act.put (Act.put (Act.put (Act.put (Act.put (Act.put (Act.put (Act.put (Act.put (Act.put (Act.put (Act.put (Act.put (Act.put (Act.put (Act.put (Act.put (Act.put (Act.put a (some 181) (Grow.onlyIf (f 0) (.pointer (some ⟨pb, 2, none⟩)) undef)) (some 182) (Grow.onlyIf (f 1) (.int .i64 pl.o) undef)) (some 183) (Grow.onlyIf (f 2) (.pointer (some ⟨pb, 3, none⟩)) undef)) (some 184) (Grow.onlyIf (f 3) (.int .i64 pl.c) undef)) (some 185) (Grow.onlyIf (f 4) (.pointer (some ⟨pb, 4, none⟩)) undef)) (some 186) (Grow.onlyIf (f 5) (.int .i64 pl.h) undef)) (some 187) (Grow.onlyIf (f 6) (.pointer (some ⟨ib, 0, none⟩)) undef)) (some 188) (Grow.onlyIf (f 7) (.slice (some ad) x.vs.length d0) undef)) (some 189) (Grow.onlyIf (f 8) (.pointer (some ⟨g, 0, none⟩)) undef)) (some 190) (Grow.onlyIf (f 9) (.pointer (some ⟨g, 0, none⟩)) undef)) (some 191) (Grow.onlyIf (f 10) (.pointer (some ⟨g, 13, none⟩)) undef)) (some 192) (Grow.onlyIf (f 11) (.int .i64 kv) undef)) (some 193) (Grow.onlyIf (f 12) (.pointer (some (ad.add (kv * 7)))) undef)) (some 194) (Grow.onlyIf (f 13) (.pointer (some (ad.add (kv * 7)))) undef)) (some 195) (Grow.onlyIf (f 14) (.int .i64 rm) undef)) (some 196) (Grow.onlyIf (f 15) (.pointer (some ⟨ab, 6, none⟩)) undef)) (some 197) (Grow.onlyIf (f 17) (.pointer (some ⟨ab, 7, none⟩)) undef)) (some 198) (Grow.onlyIf (f 19) (.pointer (some ⟨ab, 8, none⟩)) undef)) (some 199) (Grow.onlyIf (f 21) (.pointer (some ⟨ab, 9, none⟩)) undef))) (fun f W => Aside0 (Tch (fun k => k = ab) w28 W) ∧ Aside0 (W.heap[ab]? = some (.cells #[.int .i64 (maxI pl.o th), .int .i64 lg, .int .i64 (satAdd (maxI pl.o th) (-th)), .int .i64 (satAdd d lg), .int .i64 (satAdd l (zs * (bitI bp - bitI bd))), .int .i64 zs, Grow.onlyIf (f 16) (.int .i64 pl.o) (.int .i64 0), Grow.onlyIf (f 18) (.int .i64 pl.c) (.int .i64 0), Grow.onlyIf (f 20) (.int .i64 pl.h) (.int .i64 0), Grow.onlyIf (f 22) (.int .i64 rm) (.int .i64 0), .int .i64 (p + 1), .int .i64 (bitI bp), .int .i64 (bitI bd)] 148 (0, 0)))) (by kernel_rfl) (by kernel_rfl) (by kernel_rfl) (fun T hT => ?_)
  simp only [Act.put, List.setIfInBounds_toArray, List.set_cons_zero, List.set_cons_succ] at hT
  have HT := sA hT; clear hT
  refine ⟨⟨?_, ⟨Tch.of_below (below_drew (Below.refl _ _))⟩, ⟨HKA28.out⟩⟩, ⟨?_, ?_, ?_, ?_, ?_, ?_, ?_, ?_, ?_, ?_, ?_, ?_, ?_, ?_, ?_, ?_, ?_, ?_, ?_, ?_, ?_, ?_, ?_, trivial⟩, ?_⟩
  · rw [HT.out]; simp only [Grow.onlyIf_f]
  · refine Grow.cells_step (i := 0) (fun f W hp hn hJ K hK => ?_)
    obtain ⟨hX, hY⟩ := hJ
    clear hp
    rw [HT.out]
    have HK := sA hK; clear hK
    obtain ⟨kg1, kg2⟩ := lay0 (tK hX.out HKA28.out HKG28.out (by decide))
    obtain ⟨ki1, ki2⟩ := lay0 (tK hX.out HKA28.out HKI28.out (by decide))
    obtain ⟨kp1, kp2⟩ := lay0 (tK hX.out HKA28.out HKP28.out (by decide))
    have hbb := hX.out.below w0 (fun k hk => by rw [hk]; exact HGKA.out) HB28.out
    have cZV := pC hbb ZV.out
    unfold Oper.wp
    go_simp
    refine HK.out _ _ ?_ ?_
    · rw [HT.out]; simp only [Nat.reduceBEq, Bool.or_false, Bool.or_true, Grow.onlyIf_t, beq_self_eq_true]
    · simp only [Nat.reduceBEq, Bool.or_false]; exact ⟨hX, hY⟩
  · refine Grow.cells_step (i := 1) (fun f W hp hn hJ K hK => ?_)
    obtain ⟨hX, hY⟩ := hJ
    have dd0 : f 0 = true := hp { on := 0, ground := .data } (by simp) (by rfl)
    clear hp
    rw [HT.out]; simp only [dd0, Grow.onlyIf_t]
    have HK := sA hK; clear hK
    obtain ⟨kg1, kg2⟩ := lay0 (tK hX.out HKA28.out HKG28.out (by decide))
    obtain ⟨ki1, ki2⟩ := lay0 (tK hX.out HKA28.out HKI28.out (by decide))
    obtain ⟨kp1, kp2⟩ := lay0 (tK hX.out HKA28.out HKP28.out (by decide))
    have hbb := hX.out.below w0 (fun k hk => by rw [hk]; exact HGKA.out) HB28.out
    have cZV := pC hbb ZV.out
    unfold Oper.wp
    go_simp
    refine HK.out _ _ ?_ ?_
    · rw [HT.out]; simp only [dd0, Nat.reduceBEq, Bool.or_false, Bool.or_true, Grow.onlyIf_t, beq_self_eq_true]
    · simp only [Nat.reduceBEq, Bool.or_false]; exact ⟨hX, hY⟩
  · refine Grow.cells_step (i := 2) (fun f W hp hn hJ K hK => ?_)
    obtain ⟨hX, hY⟩ := hJ
    clear hp
    rw [HT.out]
    have HK := sA hK; clear hK
    obtain ⟨kg1, kg2⟩ := lay0 (tK hX.out HKA28.out HKG28.out (by decide))
    obtain ⟨ki1, ki2⟩ := lay0 (tK hX.out HKA28.out HKI28.out (by decide))
    obtain ⟨kp1, kp2⟩ := lay0 (tK hX.out HKA28.out HKP28.out (by decide))
    have hbb := hX.out.below w0 (fun k hk => by rw [hk]; exact HGKA.out) HB28.out
    have cZV := pC hbb ZV.out
    unfold Oper.wp
    go_simp
    refine HK.out _ _ ?_ ?_
    · rw [HT.out]; simp only [Nat.reduceBEq, Bool.or_false, Bool.or_true, Grow.onlyIf_t, beq_self_eq_true]
    · simp only [Nat.reduceBEq, Bool.or_false]; exact ⟨hX, hY⟩
  · refine Grow.cells_step (i := 3) (fun f W hp hn hJ K hK => ?_)
    obtain ⟨hX, hY⟩ := hJ
    have dd2 : f 2 = true := hp { on := 2, ground := .data } (by simp) (by rfl)
    clear hp
    rw [HT.out]; simp only [dd2, Grow.onlyIf_t]
    have HK := sA hK; clear hK
    obtain ⟨kg1, kg2⟩ := lay0 (tK hX.out HKA28.out HKG28.out (by decide))
    obtain ⟨ki1, ki2⟩ := lay0 (tK hX.out HKA28.out HKI28.out (by decide))
    obtain ⟨kp1, kp2⟩ := lay0 (tK hX.out HKA28.out HKP28.out (by decide))
    have hbb := hX.out.below w0 (fun k hk => by rw [hk]; exact HGKA.out) HB28.out
    have cZV := pC hbb ZV.out
    unfold Oper.wp
    go_simp
    refine HK.out _ _ ?_ ?_
    · rw [HT.out]; simp only [dd2, Nat.reduceBEq, Bool.or_false, Bool.or_true, Grow.onlyIf_t, beq_self_eq_true]
    · simp only [Nat.reduceBEq, Bool.or_false]; exact ⟨hX, hY⟩
  · refine Grow.cells_step (i := 4) (fun f W hp hn hJ K hK => ?_)
    obtain ⟨hX, hY⟩ := hJ
    clear hp
    rw [HT.out]
    have HK := sA hK; clear hK
    obtain ⟨kg1, kg2⟩ := lay0 (tK hX.out HKA28.out HKG28.out (by decide))
    obtain ⟨ki1, ki2⟩ := lay0 (tK hX.out HKA28.out HKI28.out (by decide))
    obtain ⟨kp1, kp2⟩ := lay0 (tK hX.out HKA28.out HKP28.out (by decide))
    have hbb := hX.out.below w0 (fun k hk => by rw [hk]; exact HGKA.out) HB28.out
    have cZV := pC hbb ZV.out
    unfold Oper.wp
    go_simp
    refine HK.out _ _ ?_ ?_
    · rw [HT.out]; simp only [Nat.reduceBEq, Bool.or_false, Bool.or_true, Grow.onlyIf_t, beq_self_eq_true]
    · simp only [Nat.reduceBEq, Bool.or_false]; exact ⟨hX, hY⟩
  · refine Grow.cells_step (i := 5) (fun f W hp hn hJ K hK => ?_)
    obtain ⟨hX, hY⟩ := hJ
    have dd4 : f 4 = true := hp { on := 4, ground := .data } (by simp) (by rfl)
    clear hp
    rw [HT.out]; simp only [dd4, Grow.onlyIf_t]
    have HK := sA hK; clear hK
    obtain ⟨kg1, kg2⟩ := lay0 (tK hX.out HKA28.out HKG28.out (by decide))
    obtain ⟨ki1, ki2⟩ := lay0 (tK hX.out HKA28.out HKI28.out (by decide))
    obtain ⟨kp1, kp2⟩ := lay0 (tK hX.out HKA28.out HKP28.out (by decide))
    have hbb := hX.out.below w0 (fun k hk => by rw [hk]; exact HGKA.out) HB28.out
    have cZV := pC hbb ZV.out
    unfold Oper.wp
    go_simp
    refine HK.out _ _ ?_ ?_
    · rw [HT.out]; simp only [dd4, Nat.reduceBEq, Bool.or_false, Bool.or_true, Grow.onlyIf_t, beq_self_eq_true]
    · simp only [Nat.reduceBEq, Bool.or_false]; exact ⟨hX, hY⟩
  · refine Grow.cells_step (i := 6) (fun f W hp hn hJ K hK => ?_)
    obtain ⟨hX, hY⟩ := hJ
    clear hp
    rw [HT.out]
    have HK := sA hK; clear hK
    obtain ⟨kg1, kg2⟩ := lay0 (tK hX.out HKA28.out HKG28.out (by decide))
    obtain ⟨ki1, ki2⟩ := lay0 (tK hX.out HKA28.out HKI28.out (by decide))
    obtain ⟨kp1, kp2⟩ := lay0 (tK hX.out HKA28.out HKP28.out (by decide))
    have hbb := hX.out.below w0 (fun k hk => by rw [hk]; exact HGKA.out) HB28.out
    have cZV := pC hbb ZV.out
    unfold Oper.wp
    go_simp
    refine HK.out _ _ ?_ ?_
    · rw [HT.out]; simp only [Nat.reduceBEq, Bool.or_false, Bool.or_true, Grow.onlyIf_t, beq_self_eq_true]
    · simp only [Nat.reduceBEq, Bool.or_false]; exact ⟨hX, hY⟩
  · refine Grow.cells_step (i := 7) (fun f W hp hn hJ K hK => ?_)
    obtain ⟨hX, hY⟩ := hJ
    have dd6 : f 6 = true := hp { on := 6, ground := .data } (by simp) (by rfl)
    clear hp
    rw [HT.out]; simp only [dd6, Grow.onlyIf_t]
    have HK := sA hK; clear hK
    obtain ⟨kg1, kg2⟩ := lay0 (tK hX.out HKA28.out HKG28.out (by decide))
    obtain ⟨ki1, ki2⟩ := lay0 (tK hX.out HKA28.out HKI28.out (by decide))
    obtain ⟨kp1, kp2⟩ := lay0 (tK hX.out HKA28.out HKP28.out (by decide))
    have hbb := hX.out.below w0 (fun k hk => by rw [hk]; exact HGKA.out) HB28.out
    have cZV := pC hbb ZV.out
    unfold Oper.wp
    go_simp
    refine HK.out _ _ ?_ ?_
    · rw [HT.out]; simp only [dd6, Nat.reduceBEq, Bool.or_false, Bool.or_true, Grow.onlyIf_t, beq_self_eq_true]
    · simp only [Nat.reduceBEq, Bool.or_false]; exact ⟨hX, hY⟩
  · refine Grow.cells_step (i := 8) (fun f W hp hn hJ K hK => ?_)
    obtain ⟨hX, hY⟩ := hJ
    clear hp
    rw [HT.out]
    have HK := sA hK; clear hK
    obtain ⟨kg1, kg2⟩ := lay0 (tK hX.out HKA28.out HKG28.out (by decide))
    obtain ⟨ki1, ki2⟩ := lay0 (tK hX.out HKA28.out HKI28.out (by decide))
    obtain ⟨kp1, kp2⟩ := lay0 (tK hX.out HKA28.out HKP28.out (by decide))
    have hbb := hX.out.below w0 (fun k hk => by rw [hk]; exact HGKA.out) HB28.out
    have cZV := pC hbb ZV.out
    unfold Oper.wp
    go_simp
    refine HK.out _ _ ?_ ?_
    · rw [HT.out]; simp only [Nat.reduceBEq, Bool.or_false, Bool.or_true, Grow.onlyIf_t, beq_self_eq_true]
    · simp only [Nat.reduceBEq, Bool.or_false]; exact ⟨hX, hY⟩
  · refine Grow.cells_step (i := 9) (fun f W hp hn hJ K hK => ?_)
    obtain ⟨hX, hY⟩ := hJ
    have dd8 : f 8 = true := hp { on := 8, ground := .data } (by simp) (by rfl)
    clear hp
    rw [HT.out]; simp only [dd8, Grow.onlyIf_t]
    have HK := sA hK; clear hK
    obtain ⟨kg1, kg2⟩ := lay0 (tK hX.out HKA28.out HKG28.out (by decide))
    obtain ⟨ki1, ki2⟩ := lay0 (tK hX.out HKA28.out HKI28.out (by decide))
    obtain ⟨kp1, kp2⟩ := lay0 (tK hX.out HKA28.out HKP28.out (by decide))
    have hbb := hX.out.below w0 (fun k hk => by rw [hk]; exact HGKA.out) HB28.out
    have cZV := pC hbb ZV.out
    unfold Oper.wp
    go_simp
    refine HK.out _ _ ?_ ?_
    · rw [HT.out]; simp only [dd8, Nat.reduceBEq, Bool.or_false, Bool.or_true, Grow.onlyIf_t, beq_self_eq_true]
    · simp only [Nat.reduceBEq, Bool.or_false]; exact ⟨hX, hY⟩
  · refine Grow.cells_step (i := 10) (fun f W hp hn hJ K hK => ?_)
    obtain ⟨hX, hY⟩ := hJ
    have dd9 : f 9 = true := hp { on := 9, ground := .data } (by simp) (by rfl)
    clear hp
    rw [HT.out]; simp only [dd9, Grow.onlyIf_t]
    have HK := sA hK; clear hK
    obtain ⟨kg1, kg2⟩ := lay0 (tK hX.out HKA28.out HKG28.out (by decide))
    obtain ⟨ki1, ki2⟩ := lay0 (tK hX.out HKA28.out HKI28.out (by decide))
    obtain ⟨kp1, kp2⟩ := lay0 (tK hX.out HKA28.out HKP28.out (by decide))
    have hbb := hX.out.below w0 (fun k hk => by rw [hk]; exact HGKA.out) HB28.out
    have cZV := pC hbb ZV.out
    unfold Oper.wp
    go_simp
    refine HK.out _ _ ?_ ?_
    · rw [HT.out]; simp only [dd9, Nat.reduceBEq, Bool.or_false, Bool.or_true, Grow.onlyIf_t, beq_self_eq_true]
    · simp only [Nat.reduceBEq, Bool.or_false]; exact ⟨hX, hY⟩
  · refine Grow.cells_step (i := 11) (fun f W hp hn hJ K hK => ?_)
    obtain ⟨hX, hY⟩ := hJ
    have dd10 : f 10 = true := hp { on := 10, ground := .data } (by simp) (by rfl)
    clear hp
    rw [HT.out]; simp only [dd10, Grow.onlyIf_t]
    have HK := sA hK; clear hK
    obtain ⟨kg1, kg2⟩ := lay0 (tK hX.out HKA28.out HKG28.out (by decide))
    obtain ⟨ki1, ki2⟩ := lay0 (tK hX.out HKA28.out HKI28.out (by decide))
    obtain ⟨kp1, kp2⟩ := lay0 (tK hX.out HKA28.out HKP28.out (by decide))
    have hbb := hX.out.below w0 (fun k hk => by rw [hk]; exact HGKA.out) HB28.out
    have cZV := pC hbb ZV.out
    unfold Oper.wp
    go_simp
    refine HK.out _ _ ?_ ?_
    · rw [HT.out]; simp only [dd10, Nat.reduceBEq, Bool.or_false, Bool.or_true, Grow.onlyIf_t, beq_self_eq_true]
    · simp only [Nat.reduceBEq, Bool.or_false]; exact ⟨hX, hY⟩
  · refine Grow.cells_step (i := 12) (fun f W hp hn hJ K hK => ?_)
    obtain ⟨hX, hY⟩ := hJ
    have dd7 : f 7 = true := hp { on := 7, ground := .data } (by simp) (by rfl)
    have dd11 : f 11 = true := hp { on := 11, ground := .data } (by simp) (by rfl)
    clear hp
    rw [HT.out]; simp only [dd7, dd11, Grow.onlyIf_t]
    have HK := sA hK; clear hK
    obtain ⟨kg1, kg2⟩ := lay0 (tK hX.out HKA28.out HKG28.out (by decide))
    obtain ⟨ki1, ki2⟩ := lay0 (tK hX.out HKA28.out HKI28.out (by decide))
    obtain ⟨kp1, kp2⟩ := lay0 (tK hX.out HKA28.out HKP28.out (by decide))
    have hbb := hX.out.below w0 (fun k hk => by rw [hk]; exact HGKA.out) HB28.out
    have cZV := pC hbb ZV.out
    unfold Oper.wp
    go_simp
    refine HK.out _ _ ?_ ?_
    · rw [HT.out]; simp only [dd7, dd11, Nat.reduceBEq, Bool.or_false, Bool.or_true, Grow.onlyIf_t, beq_self_eq_true]
    · simp only [Nat.reduceBEq, Bool.or_false]; exact ⟨hX, hY⟩
  · refine Grow.cells_step (i := 13) (fun f W hp hn hJ K hK => ?_)
    obtain ⟨hX, hY⟩ := hJ
    have dd12 : f 12 = true := hp { on := 12, ground := .data } (by simp) (by rfl)
    clear hp
    rw [HT.out]; simp only [dd12, Grow.onlyIf_t]
    have HK := sA hK; clear hK
    obtain ⟨kg1, kg2⟩ := lay0 (tK hX.out HKA28.out HKG28.out (by decide))
    obtain ⟨ki1, ki2⟩ := lay0 (tK hX.out HKA28.out HKI28.out (by decide))
    obtain ⟨kp1, kp2⟩ := lay0 (tK hX.out HKA28.out HKP28.out (by decide))
    have hbb := hX.out.below w0 (fun k hk => by rw [hk]; exact HGKA.out) HB28.out
    have cZV := pC hbb ZV.out
    unfold Oper.wp
    go_simp
    refine HK.out _ _ ?_ ?_
    · rw [HT.out]; simp only [dd12, Nat.reduceBEq, Bool.or_false, Bool.or_true, Grow.onlyIf_t, beq_self_eq_true]
    · simp only [Nat.reduceBEq, Bool.or_false]; exact ⟨hX, hY⟩
  · refine Grow.cells_step (i := 14) (fun f W hp hn hJ K hK => ?_)
    obtain ⟨hX, hY⟩ := hJ
    have dd13 : f 13 = true := hp { on := 13, ground := .data } (by simp) (by rfl)
    clear hp
    rw [HT.out]; simp only [dd13, Grow.onlyIf_t]
    have HK := sA hK; clear hK
    obtain ⟨kg1, kg2⟩ := lay0 (tK hX.out HKA28.out HKG28.out (by decide))
    obtain ⟨ki1, ki2⟩ := lay0 (tK hX.out HKA28.out HKI28.out (by decide))
    obtain ⟨kp1, kp2⟩ := lay0 (tK hX.out HKA28.out HKP28.out (by decide))
    have hbb := hX.out.below w0 (fun k hk => by rw [hk]; exact HGKA.out) HB28.out
    have cZV := pC hbb ZV.out
    unfold Oper.wp
    go_simp
    refine HK.out _ _ ?_ ?_
    · rw [HT.out]; simp only [dd13, Nat.reduceBEq, Bool.or_false, Bool.or_true, Grow.onlyIf_t, beq_self_eq_true]
    · simp only [Nat.reduceBEq, Bool.or_false]; exact ⟨hX, hY⟩
  · refine Grow.cells_step (i := 15) (fun f W hp hn hJ K hK => ?_)
    obtain ⟨hX, hY⟩ := hJ
    clear hp
    rw [HT.out]
    have HK := sA hK; clear hK
    obtain ⟨kg1, kg2⟩ := lay0 (tK hX.out HKA28.out HKG28.out (by decide))
    obtain ⟨ki1, ki2⟩ := lay0 (tK hX.out HKA28.out HKI28.out (by decide))
    obtain ⟨kp1, kp2⟩ := lay0 (tK hX.out HKA28.out HKP28.out (by decide))
    have hbb := hX.out.below w0 (fun k hk => by rw [hk]; exact HGKA.out) HB28.out
    have cZV := pC hbb ZV.out
    unfold Oper.wp
    go_simp
    refine HK.out _ _ ?_ ?_
    · rw [HT.out]; simp only [Nat.reduceBEq, Bool.or_false, Bool.or_true, Grow.onlyIf_t, beq_self_eq_true]
    · simp only [Nat.reduceBEq, Bool.or_false]; exact ⟨hX, hY⟩
  · refine Grow.cells_step (i := 16) (fun f W hp hn hJ K hK => ?_)
    obtain ⟨hX, hY⟩ := hJ
    have dd15 : f 15 = true := hp { on := 15, ground := .data } (by simp) (by rfl)
    have dd1 : f 1 = true := hp { on := 1, ground := .data } (by simp) (by rfl)
    clear hp
    have HY := hY.out
    rw [HT.out]; simp only [dd15, dd1, Grow.onlyIf_t]
    have HK := sA hK; clear hK
    have hcl := blk_cell HY 6; have hfr := blk_frozen HY 6; simp only [List.getElem?_toArray, List.getElem?_cons_zero, List.getElem?_cons_succ] at hcl
    unfold Oper.wp
    go_simp
    refine HK.out _ _ ?_ ?_
    · rw [HT.out]; simp only [dd15, dd1, Nat.reduceBEq, Bool.or_false, Bool.or_true, Grow.onlyIf_t, beq_self_eq_true]
    · simp only [Nat.reduceBEq, Bool.or_false, Bool.or_true, Grow.onlyIf_t, beq_self_eq_true]; exact ⟨⟨hX.out.trans (Tch.set rfl)⟩, ⟨by have h := blk_set HY 6 (.int .i64 pl.o); simpa only [List.setIfInBounds_toArray, List.set_cons_zero, List.set_cons_succ] using h⟩⟩
  · refine Grow.cells_step (i := 17) (fun f W hp hn hJ K hK => ?_)
    obtain ⟨hX, hY⟩ := hJ
    clear hp
    rw [HT.out]
    have HK := sA hK; clear hK
    obtain ⟨kg1, kg2⟩ := lay0 (tK hX.out HKA28.out HKG28.out (by decide))
    obtain ⟨ki1, ki2⟩ := lay0 (tK hX.out HKA28.out HKI28.out (by decide))
    obtain ⟨kp1, kp2⟩ := lay0 (tK hX.out HKA28.out HKP28.out (by decide))
    have hbb := hX.out.below w0 (fun k hk => by rw [hk]; exact HGKA.out) HB28.out
    have cZV := pC hbb ZV.out
    unfold Oper.wp
    go_simp
    refine HK.out _ _ ?_ ?_
    · rw [HT.out]; simp only [Nat.reduceBEq, Bool.or_false, Bool.or_true, Grow.onlyIf_t, beq_self_eq_true]
    · simp only [Nat.reduceBEq, Bool.or_false]; exact ⟨hX, hY⟩
  · refine Grow.cells_step (i := 18) (fun f W hp hn hJ K hK => ?_)
    obtain ⟨hX, hY⟩ := hJ
    have dd17 : f 17 = true := hp { on := 17, ground := .data } (by simp) (by rfl)
    have dd3 : f 3 = true := hp { on := 3, ground := .data } (by simp) (by rfl)
    clear hp
    have HY := hY.out
    rw [HT.out]; simp only [dd17, dd3, Grow.onlyIf_t]
    have HK := sA hK; clear hK
    have hcl := blk_cell HY 7; have hfr := blk_frozen HY 7; simp only [List.getElem?_toArray, List.getElem?_cons_zero, List.getElem?_cons_succ] at hcl
    unfold Oper.wp
    go_simp
    refine HK.out _ _ ?_ ?_
    · rw [HT.out]; simp only [dd17, dd3, Nat.reduceBEq, Bool.or_false, Bool.or_true, Grow.onlyIf_t, beq_self_eq_true]
    · simp only [Nat.reduceBEq, Bool.or_false, Bool.or_true, Grow.onlyIf_t, beq_self_eq_true]; exact ⟨⟨hX.out.trans (Tch.set rfl)⟩, ⟨by have h := blk_set HY 7 (.int .i64 pl.c); simpa only [List.setIfInBounds_toArray, List.set_cons_zero, List.set_cons_succ] using h⟩⟩
  · refine Grow.cells_step (i := 19) (fun f W hp hn hJ K hK => ?_)
    obtain ⟨hX, hY⟩ := hJ
    clear hp
    rw [HT.out]
    have HK := sA hK; clear hK
    obtain ⟨kg1, kg2⟩ := lay0 (tK hX.out HKA28.out HKG28.out (by decide))
    obtain ⟨ki1, ki2⟩ := lay0 (tK hX.out HKA28.out HKI28.out (by decide))
    obtain ⟨kp1, kp2⟩ := lay0 (tK hX.out HKA28.out HKP28.out (by decide))
    have hbb := hX.out.below w0 (fun k hk => by rw [hk]; exact HGKA.out) HB28.out
    have cZV := pC hbb ZV.out
    unfold Oper.wp
    go_simp
    refine HK.out _ _ ?_ ?_
    · rw [HT.out]; simp only [Nat.reduceBEq, Bool.or_false, Bool.or_true, Grow.onlyIf_t, beq_self_eq_true]
    · simp only [Nat.reduceBEq, Bool.or_false]; exact ⟨hX, hY⟩
  · refine Grow.cells_step (i := 20) (fun f W hp hn hJ K hK => ?_)
    obtain ⟨hX, hY⟩ := hJ
    have dd19 : f 19 = true := hp { on := 19, ground := .data } (by simp) (by rfl)
    have dd5 : f 5 = true := hp { on := 5, ground := .data } (by simp) (by rfl)
    clear hp
    have HY := hY.out
    rw [HT.out]; simp only [dd19, dd5, Grow.onlyIf_t]
    have HK := sA hK; clear hK
    have hcl := blk_cell HY 8; have hfr := blk_frozen HY 8; simp only [List.getElem?_toArray, List.getElem?_cons_zero, List.getElem?_cons_succ] at hcl
    unfold Oper.wp
    go_simp
    refine HK.out _ _ ?_ ?_
    · rw [HT.out]; simp only [dd19, dd5, Nat.reduceBEq, Bool.or_false, Bool.or_true, Grow.onlyIf_t, beq_self_eq_true]
    · simp only [Nat.reduceBEq, Bool.or_false, Bool.or_true, Grow.onlyIf_t, beq_self_eq_true]; exact ⟨⟨hX.out.trans (Tch.set rfl)⟩, ⟨by have h := blk_set HY 8 (.int .i64 pl.h); simpa only [List.setIfInBounds_toArray, List.set_cons_zero, List.set_cons_succ] using h⟩⟩
  · refine Grow.cells_step (i := 21) (fun f W hp hn hJ K hK => ?_)
    obtain ⟨hX, hY⟩ := hJ
    clear hp
    rw [HT.out]
    have HK := sA hK; clear hK
    obtain ⟨kg1, kg2⟩ := lay0 (tK hX.out HKA28.out HKG28.out (by decide))
    obtain ⟨ki1, ki2⟩ := lay0 (tK hX.out HKA28.out HKI28.out (by decide))
    obtain ⟨kp1, kp2⟩ := lay0 (tK hX.out HKA28.out HKP28.out (by decide))
    have hbb := hX.out.below w0 (fun k hk => by rw [hk]; exact HGKA.out) HB28.out
    have cZV := pC hbb ZV.out
    unfold Oper.wp
    go_simp
    refine HK.out _ _ ?_ ?_
    · rw [HT.out]; simp only [Nat.reduceBEq, Bool.or_false, Bool.or_true, Grow.onlyIf_t, beq_self_eq_true]
    · simp only [Nat.reduceBEq, Bool.or_false]; exact ⟨hX, hY⟩
  · refine Grow.cells_step (i := 22) (fun f W hp hn hJ K hK => ?_)
    obtain ⟨hX, hY⟩ := hJ
    have dd21 : f 21 = true := hp { on := 21, ground := .data } (by simp) (by rfl)
    have dd14 : f 14 = true := hp { on := 14, ground := .data } (by simp) (by rfl)
    clear hp
    have HY := hY.out
    rw [HT.out]; simp only [dd21, dd14, Grow.onlyIf_t]
    have HK := sA hK; clear hK
    have hcl := blk_cell HY 9; have hfr := blk_frozen HY 9; simp only [List.getElem?_toArray, List.getElem?_cons_zero, List.getElem?_cons_succ] at hcl
    unfold Oper.wp
    go_simp
    refine HK.out _ _ ?_ ?_
    · rw [HT.out]; simp only [dd21, dd14, Nat.reduceBEq, Bool.or_false, Bool.or_true, Grow.onlyIf_t, beq_self_eq_true]
    · simp only [Nat.reduceBEq, Bool.or_false, Bool.or_true, Grow.onlyIf_t, beq_self_eq_true]; exact ⟨⟨hX.out.trans (Tch.set rfl)⟩, ⟨by have h := blk_set HY 9 (.int .i64 rm); simpa only [List.setIfInBounds_toArray, List.set_cons_zero, List.set_cons_succ] using h⟩⟩
  intro f w29 hf hJ
  obtain ⟨hT, hX⟩ := hJ; replace hT := hT.out; replace hX := hX.out
  rw [HT.out]
  simp only [hf 0 (by decide), hf 1 (by decide), hf 2 (by decide), hf 3 (by decide), hf 4 (by decide), hf 5 (by decide), hf 6 (by decide), hf 7 (by decide), hf 8 (by decide), hf 9 (by decide), hf 10 (by decide), hf 11 (by decide), hf 12 (by decide), hf 13 (by decide), hf 14 (by decide), hf 15 (by decide), hf 16 (by decide), hf 17 (by decide), hf 18 (by decide), hf 19 (by decide), hf 20 (by decide), hf 21 (by decide), hf 22 (by decide), Grow.onlyIf_t] at hX ⊢
  clear hf HT T
  (try simp only [List.setIfInBounds_toArray, List.set_cons_zero, List.set_cons_succ] at hX)
  have HB29 := sA (hT.below w0 (fun k hk => by rw [hk]; exact HGKA.out) HB28.out); have HKG29 := sA (tK hT HKA28.out HKG28.out (by decide)); have HKI29 := sA (tK hT HKA28.out HKI28.out (by decide)); have HKP29 := sA (tK hT HKA28.out HKP28.out (by decide)); have HR129 := sA (row_tch HR128.out hT HKA28.out (by decide)); have HR229 := sA (row_tch HR228.out hT HKA28.out (by decide)); have HR029 := sA (row_tch HR028.out hT HKA28.out (by decide)); have HSZ29 := sA (Nat.le_trans HSZ28.out hT.size); have HKA29 := sA hX; clear hX hT
  obtain ⟨kg1, kg2⟩ := lay0 HKG29.out
  obtain ⟨ki1, ki2⟩ := lay0 HKI29.out
  obtain ⟨kp1, kp2⟩ := lay0 HKP29.out
  obtain ⟨ka1, ka2⟩ := lay0 HKA29.out
  have cZV := pC HB29.out ZV.out
  go_wp2_with fail
  clear kg1 kg2 ki1 ki2 kp1 kp2 ka1 ka2 cZV
  refine Grow.wp_region_tail 5 (by kernel_rfl) (by kernel_rfl) ?_
  dsimp only [List.take, List.drop]
  repeat ((first | (refine Grow.lexP_do _ (by rfl) (by rfl) (by intro W hj; obtain ⟨kg1, kg2⟩ := lay hj.out HKG29.out; obtain ⟨ki1, ki2⟩ := lay hj.out HKI29.out; obtain ⟨kp1, kp2⟩ := lay hj.out HKP29.out; obtain ⟨ka1, ka2⟩ := lay hj.out HKA29.out; have cZV := pC (bC HB29.out hj.out) ZV.out; go_simp; first | exact Grow.UponB.val) ?_)); refine Grow.lexP_norm (fun K hK => ?_); go_simp; refine hK _ ?_; clear hK K)
  refine Grow.lexP_nil (fun w30 hj => ?_)
  have hb := hj.out; clear hj
  have HB30 := sA (bC HB29.out hb); have HKG30 := sA (bB HKG29.out hb); have HKI30 := sA (bB HKI29.out hb); have HKP30 := sA (bB HKP29.out hb); have HKA30 := sA (bB HKA29.out hb); have HR130 := sA (Kd.R_below HR129.out hb); have HR230 := sA (Kd.R_below HR229.out hb); have HR030 := sA (Kd.R_below HR029.out hb); have HSZ30 := sA (Nat.le_trans HSZ29.out hb.size); clear hb
  refine wpList_copyInts rfl _ _ _ _ rfl 2 (by kernel_rfl) (by kernel_rfl) (g := ga) (n := len) (cap := cR) (m := 13) (b := ab) (ys := [(maxI pl.o th), lg, (satAdd (maxI pl.o th) (-th)), (satAdd d lg), (satAdd l (zs * (bitI bp - bitI bd))), zs, pl.o, pl.c, pl.h, rm, (p + 1), (bitI bp), (bitI bd)]) rfl rfl rfl HKA30.out rfl HR130.out (show 13 ≤ len from HNE.out.2.2) (by have := HNE.out.2.2; omega) ?_
  intro w31 hr hT
  have eY : nextA x kv s k = [(maxI pl.o th), lg, (satAdd (maxI pl.o th) (-th)), (satAdd d lg), (satAdd l (zs * (bitI bp - bitI bd))), zs, pl.o, pl.c, pl.h, rm, (p + 1), (bitI bp), (bitI bd)] := by
    obtain ⟨h1, h2, h3, h4, h5⟩ := HST.out
    unfold nextA nextArr
    simp only [h1, h2, h3, h4, h5, HPL.out, HLG.out, HTH.out, HRM.out, HPK.out.1, HPK.out.2.1, HPK.out.2.2, HEM.out, Int.toNat_natCast]
  have eF : maxI (x.placeAt k).o (nextArr x s k) = maxI pl.o th ∧ satAdd s.dist (x.leg s.node k) = satAdd d lg ∧ satAdd s.load ((bitI (x.pick k) - bitI (x.dropB k)) * x.sizeAt k) = satAdd l (zs * (bitI bp - bitI bd)) := by
    obtain ⟨h1, h2, h3, h4, h5⟩ := HST.out
    unfold nextArr
    simp only [h1, h2, h3, h4, h5, HPL.out, HLG.out, HTH.out, HPK.out.1, HPK.out.2.1, HPK.out.2.2, HEM.out, and_self]
  obtain ⟨ck, hck⟩ := own_blk HR130.out rfl
  have hend := And.intro (hT.below w0 (fun k hk => by rw [hk]; exact HGE.out.2) HB30.out) (And.intro (tK hT hck HKG30.out (by decide)) (And.intro hr (And.intro (int_keep HR230.out (fun k hk hl => hT.same k hl (fun e => HNE.out.1 (by rw [hk, e])))) (int_keep HR030.out (fun k hk hl => hT.same k hl (fun e => HNE.out.2.1 (by rw [hk, e])))))))
  have HEND := sA hend; have HEY := sA eY; have HEF := sA eF
  clear hend hr hT hck eY eF
  go_wp2
  refine bodyPost_end (v := .tuple #[]) (by simp [results, Tryz.results68, go_sem]) rfl ⟨rfl, ?_⟩
  obtain ⟨e1, e2, e3, e4, e5⟩ := HEND.out
  refine ⟨e1, ?_, ?_, e4, e5⟩
  · rw [HEF.out.1, HEF.out.2.1, HEF.out.2.2]
    exact e2
  · rw [HEY.out]; exact e3
end
end Go.Proofs.YtlhpbpkefkabgaaGreat.L1
