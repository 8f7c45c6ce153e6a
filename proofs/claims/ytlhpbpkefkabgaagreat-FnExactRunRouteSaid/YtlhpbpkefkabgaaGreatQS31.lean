/- The program's frame comes to the home at the start. -/
import Derived.Test.YtlhpbpkefkabgaaGreatQS26
namespace Go.Proofs.YtlhpbpkefkabgaaGreat.L1
open Go.RowKit Go.Proofs.YtlhpbpkefkabgaaGreatW.PrintWords Go.Proofs.YtlhpbpkefkabgaaGreat.B
set_option linter.unusedVariables false
set_option linter.unusedSimpArgs false
attribute [local go_sem] mk_cell mk_frozen
section
variable (w : World)
set_option maxRecDepth 100000 in
set_option maxHeartbeats 8000000 in
theorem impl_arrive_start (w0 : World) (g ga len cR : Nat) (nd t d l : Int) (k0 k1 k2 k3 k4 : Value) (B0 : Option Addr) (d0 : Nat) (B1 : Option Addr) (d1 : Nat) (B2 : Option Addr) (d2 : Nat) (x : Inst) (kv : Nat) (q : Int) (s0 s2 : Value) (br : Int) (rs sl st : List Int) (hI : ReadInst w0 (.agg #[.slice B0 x.vs.length d0, .slice B1 x.qs.length d1, .slice B2 x.rs.length d2]) x) (hval : x.valid = true) (hv : kv < x.vs.length)
    (hB : Below w0.heap.size w0 w) (hg : w.heap[g]? = some (.cells (frameC (-1) nd t d l k0 k1 k2 k3 k4 (.slice B0 x.vs.length d0) (.slice B1 x.qs.length d1) (.slice B2 x.rs.length d2) kv q s0 (.slice (some ⟨ga, 0, none⟩) len cR) s2 br) 125 (0, 0))) (hgg : w0.heap.size ≤ g) (hga : w0.heap.size ≤ ga) (hR : kInt.R 2 w w0.heap.size (fun _ => True) (.slice (some ⟨ga, 0, none⟩) len cR) rs) (hS : kInt.R 2 w w0.heap.size (fun _ => True) s2 sl) (hT : kInt.R 2 w w0.heap.size (fun _ => True) s0 st) (hne2 : s2.ownBlock ≠ some ga) (hne0 : s0.ownBlock ≠ some ga) (hlen : 13 ≤ len)
    (hd0 : d = 0) (hl0 : l = 0) :
    Calls Tryz.prog 68 #[.pointer (some ⟨g, 0, none⟩), .int .i64 kv] w fun e w' => e = .returned (.tuple #[]) ∧ Below w0.heap.size w0 w' ∧ w'.heap[g]? = some (.cells (frameC 0 kv (x.placeAt kv).o 0 0 k0 k1 k2 k3 k4 (.slice B0 x.vs.length d0) (.slice B1 x.qs.length d1) (.slice B2 x.rs.length d2) kv (-1) s0 (.slice (some ⟨ga, 0, none⟩) len cR) s2 br) 125 (0, 0)) ∧
      kInt.R 2 w' w0.heap.size (fun _ => True) (.slice (some ⟨ga, 0, none⟩) len cR) ((startA x kv) ++ rs.drop 13) ∧ kInt.R 2 w' w0.heap.size (fun _ => True) s2 sl ∧ kInt.R 2 w' w0.heap.size (fun _ => True) s0 st := by
  obtain ⟨f0, f1, f2, hnear⟩ := Inst.few_near hval
  have HF := sA (And.intro f0 (And.intro f1 (And.intro f2 (And.intro hnear (Nat.le_refl 0)))))
  have hsort := Inst.sorted_of hval
  have HSO := sA hsort
  have HXI := sA hI; have HVAL := sA hval
  have HSM := sA (show x.vs.length ≤ 1048576 by omega)
  obtain ⟨C0, c0, C1, c1, C2, c2, he, b0, b1, b2⟩ := hI; clear b2
  have he1 : B0 = C0 ∧ B1 = C1 := by injection he with he; simp at he; exact ⟨he.1.1, he.2.1.1⟩
  obtain ⟨rfl, rfl⟩ := he1
  obtain ⟨ad, e0, t0, t1⟩ := Kd.flat_cells (d := kVeh) rfl b0 zV kv hv
  cases e0
  have ZV := sA (t0 _ rfl); clear t0 t1
  have hge : decide ((x.vs.length : Int) ≤ (kv : Int)) = false := decide_eq_false (by omega)
  have hgn : decide (x.vs.length ≤ kv) = false := decide_eq_false (by omega)
  have hnode : (kv : Int) < x.nodes := by unfold Inst.nodes; omega
  have hkv : (kv : Int) < (x.vs.length : Int) := by omega
  subst hd0 hl0
  unfold frameC at hg
  have HB0 := sA hB; have HKG0 := sA hg; have HR10 := sA hR; have HR20 := sA hS; have HR00 := sA hT; have HNE := sA (And.intro hne2 (And.intro hne0 hlen)); have HGE := sA (And.intro hgg hga); have HSZ0 := sA (Nat.le_refl w.heap.size)
  have HND := sA hnode
  clear b0 b1 he hB hg hR hS hT hne2 hne0 hlen hgg hga hval f0 f1 f2 hnear hsort hnode
  generalize hrm : (x.vs.getD kv zV).room = rm at ZV
  have HRM := sA hrm; clear hrm
  go_enter Tryz.func68, Tryz.ntmps68
  obtain ⟨kg1, kg2⟩ := lay0 HKG0.out
  have cZV := pC HB0.out ZV.out
  go_wp2_with fail
  clear kg1 kg2 cZV
  refine Grow.wp_region_plan 10 ⟨[(9, 4)], fun _ v lo _ W => BoxG #[.slice none 0 0, .slice none 0 0, .slice none 0 0] 47 v lo W, fun i v lo hi W W' hb h => ⟨h.1, bB h.2 hb⟩⟩ (by kernel_rfl) (List.pairwise_singleton _ _) (by kernel_rfl) (by rfl) ?_
  dsimp only [List.take, List.drop]
  repeat ((first | (refine Grow.lexP_make (by rfl) (by rfl) (by intro W hj; obtain ⟨kg1, kg2⟩ := lay hj.out HKG0.out; have cZV := pC (bC HB0.out hj.out) ZV.out; go_simp; refine Grow.UponB.boxR ?_; exact ⟨rfl, al_new _ _⟩) ?_) | (refine Grow.lexP_do _ (by rfl) (by rfl) (by intro W hj; obtain ⟨kg1, kg2⟩ := lay hj.out HKG0.out; have cZV := pC (bC HB0.out hj.out) ZV.out; go_simp; first | exact Grow.UponB.val | (have cc := impl_vehicles W (some ad) B1 B2 x.vs.length x.qs.length x.rs.length d0 d1 d2 HSM.out; with_reducible exact Grow.UponB.call cc)) ?_)); refine Grow.lexP_norm (fun K hK => ?_); go_simp; refine hK _ ?_; clear hK K)
  refine Grow.lexP_nil (fun u lo hi w1 hj hG _ => ?_)
  obtain ⟨⟨hu, hzi⟩, hlo, _, _⟩ := hG 9 rfl
  clear hG
  dsimp only [List.foldl]
  rw [hu]
  generalize lo 9 = ib at *
  clear hu
  have hb := hj.out; clear hj
  have HB1 := sA (bC HB0.out hb); have HKG1 := sA (bB HKG0.out hb); have HR11 := sA (Kd.R_below HR10.out hb); have HR21 := sA (Kd.R_below HR20.out hb); have HR01 := sA (Kd.R_below HR00.out hb); have HSZ1 := sA (Nat.le_trans HSZ0.out hb.size); clear hb
  have HKI1 := sA hzi; have hib : w0.heap.size ≤ ib := Nat.le_trans HB0.out.size hlo; have HIB := sA hib; clear hzi hlo hib
  obtain ⟨kg1, kg2⟩ := lay0 HKG1.out
  obtain ⟨ki1, ki2⟩ := lay0 HKI1.out
  have cZV := pC HB1.out ZV.out
  go_wp2_with ((with_reducible refine gate_store (t := 47) (p := 4) rfl ?_); refine wpList_putAll rfl rfl _ _ _ rfl (g := ib) [.slice (some ad) x.vs.length d0, .slice B1 x.qs.length d1, .slice B2 x.rs.length d2] rfl rfl (by kernel_rfl) (one_all rfl) HKI1.out rfl ?_; intro w2 hX hT hz; clear hz; clear kg1 kg2 ki1 ki2 cZV; (try simp only [List.setIfInBounds_toArray, List.set_cons_zero, List.set_cons_succ] at hX); have HB2 := sA (hT.below w0 (fun k hk => by rw [hk]; exact HIB.out) HB1.out); have HKG2 := sA (tK hT HKI1.out HKG1.out (by decide)); have HR12 := sA (row_tch HR11.out hT HKI1.out (by decide)); have HR22 := sA (row_tch HR21.out hT HKI1.out (by decide)); have HR02 := sA (row_tch HR01.out hT HKI1.out (by decide)); have HSZ2 := sA (Nat.le_trans HSZ1.out hT.size); have HKI2 := sA hX; clear hX hT; obtain ⟨kg1, kg2⟩ := lay0 HKG2.out; obtain ⟨ki1, ki2⟩ := lay0 HKI2.out; have cZV := pC HB2.out ZV.out)
  clear kg1 kg2 ki1 ki2 cZV
  go_at_call 103
  refine (impl_place w2 _ x (HXI.out.below HB2.out) HF.out.1 HF.out.2.1 kv (by omega) HND.out).mono ?_
  rintro e w3 ⟨rfl, hb⟩
  have HB3 := sA (bC HB2.out hb); have HKG3 := sA (bB HKG2.out hb); have HKI3 := sA (bB HKI2.out hb); have HR13 := sA (Kd.R_below HR12.out hb); have HR23 := sA (Kd.R_below HR22.out hb); have HR03 := sA (Kd.R_below HR02.out hb); have HSZ3 := sA (Nat.le_trans HSZ2.out hb.size); clear hb
  generalize hpl : x.placeAt kv = pl at *
  have HPL := sA hpl; clear hpl
  unfold Place.val
  have hp1 : decide ((-1 : Int) < 0) = true := rfl
  obtain ⟨kg1, kg2⟩ := lay0 HKG3.out
  obtain ⟨ki1, ki2⟩ := lay0 HKI3.out
  have cZV := pC HB3.out ZV.out
  go_wp2_with (first | ((with_reducible refine gate_store (t := 69) (p := 6) rfl ?_); have hsz := HSZ3.out; have HB4 := sA (bel_box HB3.out (.cells #[.int .i64 0, .int .i64 0, .int .i64 0, .int .i64 0, .int .i64 0] 69)); have HKG4 := sA (blk_box HKG3.out (.cells #[.int .i64 0, .int .i64 0, .int .i64 0, .int .i64 0, .int .i64 0] 69)); have HKI4 := sA (blk_box HKI3.out (.cells #[.int .i64 0, .int .i64 0, .int .i64 0, .int .i64 0, .int .i64 0] 69)); have HR14 := sA (Kd.R_below HR13.out (bA (Below.refl _ _) (.cells #[.int .i64 0, .int .i64 0, .int .i64 0, .int .i64 0, .int .i64 0] 69))); have HR24 := sA (Kd.R_below HR23.out (bA (Below.refl _ _) (.cells #[.int .i64 0, .int .i64 0, .int .i64 0, .int .i64 0, .int .i64 0] 69))); have HR04 := sA (Kd.R_below HR03.out (bA (Below.refl _ _) (.cells #[.int .i64 0, .int .i64 0, .int .i64 0, .int .i64 0, .int .i64 0] 69))); have HSZ4 := sA (Nat.le_trans HSZ3.out (bA (Below.refl _ _) (.cells #[.int .i64 0, .int .i64 0, .int .i64 0, .int .i64 0, .int .i64 0] 69)).size); have HKP4 := sA (al_new w3 (.cells #[.int .i64 0, .int .i64 0, .int .i64 0, .int .i64 0, .int .i64 0] 69)); have HGKP := sA (Nat.le_trans HB3.out.size (Nat.le_refl w3.heap.size)); clear hsz; refine wpList_putAll rfl rfl _ _ _ rfl (g := w3.heap.size) [.int .i64 pl.x, .int .i64 pl.y, .int .i64 pl.o, .int .i64 pl.c, .int .i64 pl.h] rfl rfl (by kernel_rfl) (one_all rfl) HKP4.out rfl ?_; intro w5 hX hT hz; clear hz; clear kg1 kg2 ki1 ki2 cZV; (try simp only [List.setIfInBounds_toArray, List.set_cons_zero, List.set_cons_succ] at hX); have HB5 := sA (hT.below w0 (fun k hk => by rw [hk]; exact HGKP.out) HB4.out); have HKG5 := sA (tK hT HKP4.out HKG4.out (by decide)); have HKI5 := sA (tK hT HKP4.out HKI4.out (by decide)); have HR15 := sA (row_tch HR14.out hT HKP4.out (by decide)); have HR25 := sA (row_tch HR24.out hT HKP4.out (by decide)); have HR05 := sA (row_tch HR04.out hT HKP4.out (by decide)); have HSZ5 := sA (Nat.le_trans HSZ4.out hT.size); have HKP5 := sA hX; clear hX hT; obtain ⟨kg1, kg2⟩ := lay0 HKG5.out; obtain ⟨ki1, ki2⟩ := lay0 HKI5.out; obtain ⟨kp1, kp2⟩ := lay0 HKP5.out; have cZV := pC HB5.out ZV.out) | ((with_reducible refine gate_store (t := 2) (p := 23) rfl ?_); have hsz := HSZ5.out; have HB6 := sA (bel_box HB5.out (.cells #[.int .i64 0, .int .i64 0, .int .i64 0, .int .i64 0, .int .i64 0, .int .i64 0, .int .i64 0, .int .i64 0, .int .i64 0, .int .i64 0, .int .i64 0, .int .i64 0, .int .i64 0] 148)); have HKG6 := sA (blk_box HKG5.out (.cells #[.int .i64 0, .int .i64 0, .int .i64 0, .int .i64 0, .int .i64 0, .int .i64 0, .int .i64 0, .int .i64 0, .int .i64 0, .int .i64 0, .int .i64 0, .int .i64 0, .int .i64 0] 148)); have HKI6 := sA (blk_box HKI5.out (.cells #[.int .i64 0, .int .i64 0, .int .i64 0, .int .i64 0, .int .i64 0, .int .i64 0, .int .i64 0, .int .i64 0, .int .i64 0, .int .i64 0, .int .i64 0, .int .i64 0, .int .i64 0] 148)); have HKP6 := sA (blk_box HKP5.out (.cells #[.int .i64 0, .int .i64 0, .int .i64 0, .int .i64 0, .int .i64 0, .int .i64 0, .int .i64 0, .int .i64 0, .int .i64 0, .int .i64 0, .int .i64 0, .int .i64 0, .int .i64 0] 148)); have HR16 := sA (Kd.R_below HR15.out (bA (Below.refl _ _) (.cells #[.int .i64 0, .int .i64 0, .int .i64 0, .int .i64 0, .int .i64 0, .int .i64 0, .int .i64 0, .int .i64 0, .int .i64 0, .int .i64 0, .int .i64 0, .int .i64 0, .int .i64 0] 148))); have HR26 := sA (Kd.R_below HR25.out (bA (Below.refl _ _) (.cells #[.int .i64 0, .int .i64 0, .int .i64 0, .int .i64 0, .int .i64 0, .int .i64 0, .int .i64 0, .int .i64 0, .int .i64 0, .int .i64 0, .int .i64 0, .int .i64 0, .int .i64 0] 148))); have HR06 := sA (Kd.R_below HR05.out (bA (Below.refl _ _) (.cells #[.int .i64 0, .int .i64 0, .int .i64 0, .int .i64 0, .int .i64 0, .int .i64 0, .int .i64 0, .int .i64 0, .int .i64 0, .int .i64 0, .int .i64 0, .int .i64 0, .int .i64 0] 148))); have HSZ6 := sA (Nat.le_trans HSZ5.out (bA (Below.refl _ _) (.cells #[.int .i64 0, .int .i64 0, .int .i64 0, .int .i64 0, .int .i64 0, .int .i64 0, .int .i64 0, .int .i64 0, .int .i64 0, .int .i64 0, .int .i64 0, .int .i64 0, .int .i64 0] 148)).size); have HKA6 := sA (al_new w5 (.cells #[.int .i64 0, .int .i64 0, .int .i64 0, .int .i64 0, .int .i64 0, .int .i64 0, .int .i64 0, .int .i64 0, .int .i64 0, .int .i64 0, .int .i64 0, .int .i64 0, .int .i64 0] 148)); have HGKA := sA (Nat.le_trans HB5.out.size (Nat.le_refl w5.heap.size)); clear hsz; refine wpList_put1 rfl rfl _ _ _ rfl (g := g) (i := 14) (.int .i64 (-1)) rfl rfl rfl (by kernel_rfl) rfl HKG6.out (show 14 < 19 by decide) ?_; intro w7 hX hT hz; clear hz; clear kg1 kg2 ki1 ki2 kp1 kp2 cZV; (try simp only [List.setIfInBounds_toArray, List.set_cons_zero, List.set_cons_succ] at hX); have HB7 := sA (hT.below w0 (fun k hk => by rw [hk]; exact HGE.out.1) HB6.out); have HKI7 := sA (tK hT HKG6.out HKI6.out (by decide)); have HKP7 := sA (tK hT HKG6.out HKP6.out (by decide)); have HKA7 := sA (tK hT HKG6.out HKA6.out (by decide)); have HR17 := sA (row_tch HR16.out hT HKG6.out (by decide)); have HR27 := sA (row_tch HR26.out hT HKG6.out (by decide)); have HR07 := sA (row_tch HR06.out hT HKG6.out (by decide)); have HSZ7 := sA (Nat.le_trans HSZ6.out hT.size); have HKG7 := sA hX; clear hX hT; obtain ⟨kg1, kg2⟩ := lay0 HKG7.out; obtain ⟨ki1, ki2⟩ := lay0 HKI7.out; obtain ⟨kp1, kp2⟩ := lay0 HKP7.out; obtain ⟨ka1, ka2⟩ := lay0 HKA7.out; have cZV := pC HB7.out ZV.out) | ((with_reducible refine gate_store (t := 2) (p := 69) rfl ?_); refine wpList_put1 rfl rfl _ _ _ rfl (g := g) (i := 2) (.int .i64 pl.o) rfl rfl rfl (by kernel_rfl) rfl HKG7.out (show 2 < 19 by decide) ?_; intro w8 hX hT hz; clear hz; clear kg1 kg2 ki1 ki2 kp1 kp2 ka1 ka2 cZV; (try simp only [List.setIfInBounds_toArray, List.set_cons_zero, List.set_cons_succ] at hX); have HB8 := sA (hT.below w0 (fun k hk => by rw [hk]; exact HGE.out.1) HB7.out); have HKI8 := sA (tK hT HKG7.out HKI7.out (by decide)); have HKP8 := sA (tK hT HKG7.out HKP7.out (by decide)); have HKA8 := sA (tK hT HKG7.out HKA7.out (by decide)); have HR18 := sA (row_tch HR17.out hT HKG7.out (by decide)); have HR28 := sA (row_tch HR27.out hT HKG7.out (by decide)); have HR08 := sA (row_tch HR07.out hT HKG7.out (by decide)); have HSZ8 := sA (Nat.le_trans HSZ7.out hT.size); have HKG8 := sA hX; clear hX hT; obtain ⟨kg1, kg2⟩ := lay0 HKG8.out; obtain ⟨ki1, ki2⟩ := lay0 HKI8.out; obtain ⟨kp1, kp2⟩ := lay0 HKP8.out; obtain ⟨ka1, ka2⟩ := lay0 HKA8.out; have cZV := pC HB8.out ZV.out) | ((with_reducible refine gate_store (t := 2) (p := 151) rfl ?_); refine wpList_put1 rfl rfl _ _ _ rfl (g := g) (i := 0) (.int .i64 0) rfl rfl rfl (by kernel_rfl) rfl HKG8.out (show 0 < 19 by decide) ?_; intro w9 hX hT hz; clear hz; clear kg1 kg2 ki1 ki2 kp1 kp2 ka1 ka2 cZV; (try simp only [List.setIfInBounds_toArray, List.set_cons_zero, List.set_cons_succ] at hX); have HB9 := sA (hT.below w0 (fun k hk => by rw [hk]; exact HGE.out.1) HB8.out); have HKI9 := sA (tK hT HKG8.out HKI8.out (by decide)); have HKP9 := sA (tK hT HKG8.out HKP8.out (by decide)); have HKA9 := sA (tK hT HKG8.out HKA8.out (by decide)); have HR19 := sA (row_tch HR18.out hT HKG8.out (by decide)); have HR29 := sA (row_tch HR28.out hT HKG8.out (by decide)); have HR09 := sA (row_tch HR08.out hT HKG8.out (by decide)); have HSZ9 := sA (Nat.le_trans HSZ8.out hT.size); have HKG9 := sA hX; clear hX hT; obtain ⟨kg1, kg2⟩ := lay0 HKG9.out; obtain ⟨ki1, ki2⟩ := lay0 HKI9.out; obtain ⟨kp1, kp2⟩ := lay0 HKP9.out; obtain ⟨ka1, ka2⟩ := lay0 HKA9.out; have cZV := pC HB9.out ZV.out) | ((with_reducible refine gate_store (t := 2) (p := 156) rfl ?_); refine wpList_put1 rfl rfl _ _ _ rfl (g := g) (i := 1) (.int .i64 kv) rfl rfl rfl (by kernel_rfl) rfl HKG9.out (show 1 < 19 by decide) ?_; intro w10 hX hT hz; clear hz; clear kg1 kg2 ki1 ki2 kp1 kp2 ka1 ka2 cZV; (try simp only [List.setIfInBounds_toArray, List.set_cons_zero, List.set_cons_succ] at hX); have HB10 := sA (hT.below w0 (fun k hk => by rw [hk]; exact HGE.out.1) HB9.out); have HKI10 := sA (tK hT HKG9.out HKI9.out (by decide)); have HKP10 := sA (tK hT HKG9.out HKP9.out (by decide)); have HKA10 := sA (tK hT HKG9.out HKA9.out (by decide)); have HR110 := sA (row_tch HR19.out hT HKG9.out (by decide)); have HR210 := sA (row_tch HR29.out hT HKG9.out (by decide)); have HR010 := sA (row_tch HR09.out hT HKG9.out (by decide)); have HSZ10 := sA (Nat.le_trans HSZ9.out hT.size); have HKG10 := sA hX; clear hX hT; obtain ⟨kg1, kg2⟩ := lay0 HKG10.out; obtain ⟨ki1, ki2⟩ := lay0 HKI10.out; obtain ⟨kp1, kp2⟩ := lay0 HKP10.out; obtain ⟨ka1, ka2⟩ := lay0 HKA10.out; have cZV := pC HB10.out ZV.out))
  clear kg1 kg2 ki1 ki2 kp1 kp2 ka1 ka2 cZV
  generalize w3.heap.size = pb at *
  generalize w5.heap.size = ab at *
  refine Grow.wp_region_tail 20 (by kernel_rfl) (by kernel_rfl) ?_
  dsimp only [List.take, List.drop]
  repeat ((first | (refine Grow.lexP_do _ (by rfl) (by rfl) (by intro W hj; obtain ⟨kg1, kg2⟩ := lay hj.out HKG10.out; obtain ⟨ki1, ki2⟩ := lay hj.out HKI10.out; obtain ⟨kp1, kp2⟩ := lay hj.out HKP10.out; obtain ⟨ka1, ka2⟩ := lay hj.out HKA10.out; have cZV := pC (bC HB10.out hj.out) ZV.out; go_simp; first | exact Grow.UponB.val) ?_)); refine Grow.lexP_norm (fun K hK => ?_); go_simp; refine hK _ ?_; clear hK K)
  refine Grow.lexP_nil (fun w11 hj => ?_)
  have hb := hj.out; clear hj
  have HB11 := sA (bC HB10.out hb); have HKG11 := sA (bB HKG10.out hb); have HKI11 := sA (bB HKI10.out hb); have HKP11 := sA (bB HKP10.out hb); have HKA11 := sA (bB HKA10.out hb); have HR111 := sA (Kd.R_below HR110.out hb); have HR211 := sA (Kd.R_below HR210.out hb); have HR011 := sA (Kd.R_below HR010.out hb); have HSZ11 := sA (Nat.le_trans HSZ10.out hb.size); clear hb
  obtain ⟨kg1, kg2⟩ := lay0 HKG11.out
  obtain ⟨ki1, ki2⟩ := lay0 HKI11.out
  obtain ⟨kp1, kp2⟩ := lay0 HKP11.out
  obtain ⟨ka1, ka2⟩ := lay0 HKA11.out
  have cZV := pC HB11.out ZV.out
  go_wp2_with (first | ((with_reducible refine gate_store (t := 2) (p := 177) rfl ?_); refine wpList_put1 rfl rfl _ _ _ rfl (g := ab) (i := 0) (.int .i64 (pl.o)) rfl rfl rfl (by kernel_rfl) rfl HKA11.out (show 0 < 13 by decide) ?_; intro w12 hX hT hz; clear hz; clear kg1 kg2 ki1 ki2 kp1 kp2 ka1 ka2 cZV; (try simp only [List.setIfInBounds_toArray, List.set_cons_zero, List.set_cons_succ] at hX); have HB12 := sA (hT.below w0 (fun k hk => by rw [hk]; exact HGKA.out) HB11.out); have HKG12 := sA (tK hT HKA11.out HKG11.out (by decide)); have HKI12 := sA (tK hT HKA11.out HKI11.out (by decide)); have HKP12 := sA (tK hT HKA11.out HKP11.out (by decide)); have HR112 := sA (row_tch HR111.out hT HKA11.out (by decide)); have HR212 := sA (row_tch HR211.out hT HKA11.out (by decide)); have HR012 := sA (row_tch HR011.out hT HKA11.out (by decide)); have HSZ12 := sA (Nat.le_trans HSZ11.out hT.size); have HKA12 := sA hX; clear hX hT; obtain ⟨kg1, kg2⟩ := lay0 HKG12.out; obtain ⟨ki1, ki2⟩ := lay0 HKI12.out; obtain ⟨kp1, kp2⟩ := lay0 HKP12.out; obtain ⟨ka1, ka2⟩ := lay0 HKA12.out; have cZV := pC HB12.out ZV.out) | ((with_reducible refine gate_store (t := 2) (p := 178) rfl ?_); refine wpList_put1 rfl rfl _ _ _ rfl (g := ab) (i := 3) (.int .i64 (0)) rfl rfl rfl (by kernel_rfl) rfl HKA12.out (show 3 < 13 by decide) ?_; intro w13 hX hT hz; clear hz; clear kg1 kg2 ki1 ki2 kp1 kp2 ka1 ka2 cZV; (try simp only [List.setIfInBounds_toArray, List.set_cons_zero, List.set_cons_succ] at hX); have HB13 := sA (hT.below w0 (fun k hk => by rw [hk]; exact HGKA.out) HB12.out); have HKG13 := sA (tK hT HKA12.out HKG12.out (by decide)); have HKI13 := sA (tK hT HKA12.out HKI12.out (by decide)); have HKP13 := sA (tK hT HKA12.out HKP12.out (by decide)); have HR113 := sA (row_tch HR112.out hT HKA12.out (by decide)); have HR213 := sA (row_tch HR212.out hT HKA12.out (by decide)); have HR013 := sA (row_tch HR012.out hT HKA12.out (by decide)); have HSZ13 := sA (Nat.le_trans HSZ12.out hT.size); have HKA13 := sA hX; clear hX hT; obtain ⟨kg1, kg2⟩ := lay0 HKG13.out; obtain ⟨ki1, ki2⟩ := lay0 HKI13.out; obtain ⟨kp1, kp2⟩ := lay0 HKP13.out; obtain ⟨ka1, ka2⟩ := lay0 HKA13.out; have cZV := pC HB13.out ZV.out) | ((with_reducible refine gate_store (t := 2) (p := 179) rfl ?_); refine wpList_put1 rfl rfl _ _ _ rfl (g := ab) (i := 4) (.int .i64 (0)) rfl rfl rfl (by kernel_rfl) rfl HKA13.out (show 4 < 13 by decide) ?_; intro w14 hX hT hz; clear hz; clear kg1 kg2 ki1 ki2 kp1 kp2 ka1 ka2 cZV; (try simp only [List.setIfInBounds_toArray, List.set_cons_zero, List.set_cons_succ] at hX); have HB14 := sA (hT.below w0 (fun k hk => by rw [hk]; exact HGKA.out) HB13.out); have HKG14 := sA (tK hT HKA13.out HKG13.out (by decide)); have HKI14 := sA (tK hT HKA13.out HKI13.out (by decide)); have HKP14 := sA (tK hT HKA13.out HKP13.out (by decide)); have HR114 := sA (row_tch HR113.out hT HKA13.out (by decide)); have HR214 := sA (row_tch HR213.out hT HKA13.out (by decide)); have HR014 := sA (row_tch HR013.out hT HKA13.out (by decide)); have HSZ14 := sA (Nat.le_trans HSZ13.out hT.size); have HKA14 := sA hX; clear hX hT; obtain ⟨kg1, kg2⟩ := lay0 HKG14.out; obtain ⟨ki1, ki2⟩ := lay0 HKI14.out; obtain ⟨kp1, kp2⟩ := lay0 HKP14.out; obtain ⟨ka1, ka2⟩ := lay0 HKA14.out; have cZV := pC HB14.out ZV.out) | ((with_reducible refine gate_store (t := 2) (p := 180) rfl ?_); refine wpList_put1 rfl rfl _ _ _ rfl (g := ab) (i := 10) (.int .i64 (0)) rfl rfl rfl (by kernel_rfl) rfl HKA14.out (show 10 < 13 by decide) ?_; intro w15 hX hT hz; clear hz; clear kg1 kg2 ki1 ki2 kp1 kp2 ka1 ka2 cZV; (try simp only [List.setIfInBounds_toArray, List.set_cons_zero, List.set_cons_succ] at hX); have HB15 := sA (hT.below w0 (fun k hk => by rw [hk]; exact HGKA.out) HB14.out); have HKG15 := sA (tK hT HKA14.out HKG14.out (by decide)); have HKI15 := sA (tK hT HKA14.out HKI14.out (by decide)); have HKP15 := sA (tK hT HKA14.out HKP14.out (by decide)); have HR115 := sA (row_tch HR114.out hT HKA14.out (by decide)); have HR215 := sA (row_tch HR214.out hT HKA14.out (by decide)); have HR015 := sA (row_tch HR014.out hT HKA14.out (by decide)); have HSZ15 := sA (Nat.le_trans HSZ14.out hT.size); have HKA15 := sA hX; clear hX hT; obtain ⟨kg1, kg2⟩ := lay0 HKG15.out; obtain ⟨ki1, ki2⟩ := lay0 HKI15.out; obtain ⟨kp1, kp2⟩ := lay0 HKP15.out; obtain ⟨ka1, ka2⟩ := lay0 HKA15.out; have cZV := pC HB15.out ZV.out))
  clear kg1 kg2 ki1 ki2 kp1 kp2 ka1 ka2 cZV
  refine Grow.wp_region_cells (fun a f => (Act.put (Act.put (Act.put (Act.put (Act.put (Act.put (Act.put (Act.put (Act.put (Act.put (Act.put (Act.put (Act.put (Act.put (Act.put (Act.put (Act.put (Act.put (Act.put a (some 181) (Grow.onlyIf (f 0) (.pointer (some ⟨pb, 2, none⟩)) undef)) (some 182) (Grow.onlyIf (f 1) (.int .i64 pl.o) undef)) (some 183) (Grow.onlyIf (f 2) (.pointer (some ⟨pb, 3, none⟩)) undef)) (some 184) (Grow.onlyIf (f 3) (.int .i64 pl.c) undef)) (some 185) (Grow.onlyIf (f 4) (.pointer (some ⟨pb, 4, none⟩)) undef)) (some 186) (Grow.onlyIf (f 5) (.int .i64 pl.h) undef)) (some 187) (Grow.onlyIf (f 6) (.pointer (some ⟨ib, 0, none⟩)) undef)) (some 188) (Grow.onlyIf (f 7) (.slice (some ad) x.vs.length d0) undef)) (some 189) (Grow.onlyIf (f 8) (.pointer (some ⟨g, 0, none⟩)) undef)) (some 190) (Grow.onlyIf (f 9) (.pointer (some ⟨g, 0, none⟩)) undef)) (some 191) (Grow.onlyIf (f 10) (.pointer (some ⟨g, 13, none⟩)) undef)) (some 192) (Grow.onlyIf (f 11) (.int .i64 kv) undef)) (some 193) (Grow.onlyIf (f 12) (.pointer (some (ad.add (kv * 7)))) undef)) (some 194) (Grow.onlyIf (f 13) (.pointer (some (ad.add (kv * 7)))) undef)) (some 195) (Grow.onlyIf (f 14) (.int .i64 rm) undef)) (some 196) (Grow.onlyIf (f 15) (.pointer (some ⟨ab, 6, none⟩)) undef)) (some 197) (Grow.onlyIf (f 17) (.pointer (some ⟨ab, 7, none⟩)) undef)) (some 198) (Grow.onlyIf (f 19) (.pointer (some ⟨ab, 8, none⟩)) undef)) (some 199) (Grow.onlyIf (f 21) (.pointer (some ⟨ab, 9, none⟩)) undef))) (fun f W => Aside0 (Tch (fun k => k = ab) w15 W) ∧ Aside0 (W.heap[ab]? = some (.cells #[.int .i64 (pl.o), .int .i64 0, .int .i64 0, .int .i64 (0), .int .i64 (0), .int .i64 0, Grow.onlyIf (f 16) (.int .i64 pl.o) (.int .i64 0), Grow.onlyIf (f 18) (.int .i64 pl.c) (.int .i64 0), Grow.onlyIf (f 20) (.int .i64 pl.h) (.int .i64 0), Grow.onlyIf (f 22) (.int .i64 rm) (.int .i64 0), .int .i64 (0), .int .i64 0, .int .i64 0] 148 (0, 0)))) (by kernel_rfl) (by kernel_rfl) (by kernel_rfl) (fun T hT => ?_)
  simp only [Act.put, List.setIfInBounds_toArray, List.set_cons_zero, List.set_cons_succ] at hT
  have HT := sA hT; clear hT
  refine ⟨⟨?_, ⟨Tch.of_below (below_drew (Below.refl _ _))⟩, ⟨HKA15.out⟩⟩, ⟨?_, ?_, ?_, ?_, ?_, ?_, ?_, ?_, ?_, ?_, ?_, ?_, ?_, ?_, ?_, ?_, ?_, ?_, ?_, ?_, ?_, ?_, ?_, trivial⟩, ?_⟩
  · rw [HT.out]; simp only [Grow.onlyIf_f]
  · refine Grow.cells_step (i := 0) (fun f W hp hn hJ K hK => ?_)
    obtain ⟨hX, hY⟩ := hJ
    clear hp
    rw [HT.out]
    have HK := sA hK; clear hK
    obtain ⟨kg1, kg2⟩ := lay0 (tK hX.out HKA15.out HKG15.out (by decide))
    obtain ⟨ki1, ki2⟩ := lay0 (tK hX.out HKA15.out HKI15.out (by decide))
    obtain ⟨kp1, kp2⟩ := lay0 (tK hX.out HKA15.out HKP15.out (by decide))
    have hbb := hX.out.below w0 (fun k hk => by rw [hk]; exact HGKA.out) HB15.out
    have cZV := pC hbb ZV.out
    unfold Oper.wp
    go_simp
    refine HK.out _ _ ?_ ?_
    · rw [HT.out]; simp only [Nat.reduceBEq, Bool.or_false, Bool.or_true, Grow.onlyIf_t, beq_self_eq_true]
    · simp only [Nat.reduceBEq, Bool.or_false]; exact ⟨hX, hY⟩
  · refine Grow.cells_step (i := 1) (fun f W hp hn hJ K hK => ?_)
    obtain ⟨hX, hY⟩ := hJ
    have dd0 : f 0 = true := hp { on := 0, ground := .data } (by simp) (by rfl)
    clear hp
    rw [HT.out]; simp only [dd0, Grow.onlyIf_t]
    have HK := sA hK; clear hK
    obtain ⟨kg1, kg2⟩ := lay0 (tK hX.out HKA15.out HKG15.out (by decide))
    obtain ⟨ki1, ki2⟩ := lay0 (tK hX.out HKA15.out HKI15.out (by decide))
    obtain ⟨kp1, kp2⟩ := lay0 (tK hX.out HKA15.out HKP15.out (by decide))
    have hbb := hX.out.below w0 (fun k hk => by rw [hk]; exact HGKA.out) HB15.out
    have cZV := pC hbb ZV.out
    unfold Oper.wp
    go_simp
    refine HK.out _ _ ?_ ?_
    · rw [HT.out]; simp only [dd0, Nat.reduceBEq, Bool.or_false, Bool.or_true, Grow.onlyIf_t, beq_self_eq_true]
    · simp only [Nat.reduceBEq, Bool.or_false]; exact ⟨hX, hY⟩
  · refine Grow.cells_step (i := 2) (fun f W hp hn hJ K hK => ?_)
    obtain ⟨hX, hY⟩ := hJ
    clear hp
    rw [HT.out]
    have HK := sA hK; clear hK
    obtain ⟨kg1, kg2⟩ := lay0 (tK hX.out HKA15.out HKG15.out (by decide))
    obtain ⟨ki1, ki2⟩ := lay0 (tK hX.out HKA15.out HKI15.out (by decide))
    obtain ⟨kp1, kp2⟩ := lay0 (tK hX.out HKA15.out HKP15.out (by decide))
    have hbb := hX.out.below w0 (fun k hk => by rw [hk]; exact HGKA.out) HB15.out
    have cZV := pC hbb ZV.out
    unfold Oper.wp
    go_simp
    refine HK.out _ _ ?_ ?_
    · rw [HT.out]; simp only [Nat.reduceBEq, Bool.or_false, Bool.or_true, Grow.onlyIf_t, beq_self_eq_true]
    · simp only [Nat.reduceBEq, Bool.or_false]; exact ⟨hX, hY⟩
  · refine Grow.cells_step (i := 3) (fun f W hp hn hJ K hK => ?_)
    obtain ⟨hX, hY⟩ := hJ
    have dd2 : f 2 = true := hp { on := 2, ground := .data } (by simp) (by rfl)
    clear hp
    rw [HT.out]; simp only [dd2, Grow.onlyIf_t]
    have HK := sA hK; clear hK
    obtain ⟨kg1, kg2⟩ := lay0 (tK hX.out HKA15.out HKG15.out (by decide))
    obtain ⟨ki1, ki2⟩ := lay0 (tK hX.out HKA15.out HKI15.out (by decide))
    obtain ⟨kp1, kp2⟩ := lay0 (tK hX.out HKA15.out HKP15.out (by decide))
    have hbb := hX.out.below w0 (fun k hk => by rw [hk]; exact HGKA.out) HB15.out
    have cZV := pC hbb ZV.out
    unfold Oper.wp
    go_simp
    refine HK.out _ _ ?_ ?_
    · rw [HT.out]; simp only [dd2, Nat.reduceBEq, Bool.or_false, Bool.or_true, Grow.onlyIf_t, beq_self_eq_true]
    · simp only [Nat.reduceBEq, Bool.or_false]; exact ⟨hX, hY⟩
  · refine Grow.cells_step (i := 4) (fun f W hp hn hJ K hK => ?_)
    obtain ⟨hX, hY⟩ := hJ
    clear hp
    rw [HT.out]
    have HK := sA hK; clear hK
    obtain ⟨kg1, kg2⟩ := lay0 (tK hX.out HKA15.out HKG15.out (by decide))
    obtain ⟨ki1, ki2⟩ := lay0 (tK hX.out HKA15.out HKI15.out (by decide))
    obtain ⟨kp1, kp2⟩ := lay0 (tK hX.out HKA15.out HKP15.out (by decide))
    have hbb := hX.out.below w0 (fun k hk => by rw [hk]; exact HGKA.out) HB15.out
    have cZV := pC hbb ZV.out
    unfold Oper.wp
    go_simp
    refine HK.out _ _ ?_ ?_
    · rw [HT.out]; simp only [Nat.reduceBEq, Bool.or_false, Bool.or_true, Grow.onlyIf_t, beq_self_eq_true]
    · simp only [Nat.reduceBEq, Bool.or_false]; exact ⟨hX, hY⟩
  · refine Grow.cells_step (i := 5) (fun f W hp hn hJ K hK => ?_)
    obtain ⟨hX, hY⟩ := hJ
    have dd4 : f 4 = true := hp { on := 4, ground := .data } (by simp) (by rfl)
    clear hp
    rw [HT.out]; simp only [dd4, Grow.onlyIf_t]
    have HK := sA hK; clear hK
    obtain ⟨kg1, kg2⟩ := lay0 (tK hX.out HKA15.out HKG15.out (by decide))
    obtain ⟨ki1, ki2⟩ := lay0 (tK hX.out HKA15.out HKI15.out (by decide))
    obtain ⟨kp1, kp2⟩ := lay0 (tK hX.out HKA15.out HKP15.out (by decide))
    have hbb := hX.out.below w0 (fun k hk => by rw [hk]; exact HGKA.out) HB15.out
    have cZV := pC hbb ZV.out
    unfold Oper.wp
    go_simp
    refine HK.out _ _ ?_ ?_
    · rw [HT.out]; simp only [dd4, Nat.reduceBEq, Bool.or_false, Bool.or_true, Grow.onlyIf_t, beq_self_eq_true]
    · simp only [Nat.reduceBEq, Bool.or_false]; exact ⟨hX, hY⟩
  · refine Grow.cells_step (i := 6) (fun f W hp hn hJ K hK => ?_)
    obtain ⟨hX, hY⟩ := hJ
    clear hp
    rw [HT.out]
    have HK := sA hK; clear hK
    obtain ⟨kg1, kg2⟩ := lay0 (tK hX.out HKA15.out HKG15.out (by decide))
    obtain ⟨ki1, ki2⟩ := lay0 (tK hX.out HKA15.out HKI15.out (by decide))
    obtain ⟨kp1, kp2⟩ := lay0 (tK hX.out HKA15.out HKP15.out (by decide))
    have hbb := hX.out.below w0 (fun k hk => by rw [hk]; exact HGKA.out) HB15.out
    have cZV := pC hbb ZV.out
    unfold Oper.wp
    go_simp
    refine HK.out _ _ ?_ ?_
    · rw [HT.out]; simp only [Nat.reduceBEq, Bool.or_false, Bool.or_true, Grow.onlyIf_t, beq_self_eq_true]
    · simp only [Nat.reduceBEq, Bool.or_false]; exact ⟨hX, hY⟩
  · refine Grow.cells_step (i := 7) (fun f W hp hn hJ K hK => ?_)
    obtain ⟨hX, hY⟩ := hJ
    have dd6 : f 6 = true := hp { on := 6, ground := .data } (by simp) (by rfl)
    clear hp
    rw [HT.out]; simp only [dd6, Grow.onlyIf_t]
    have HK := sA hK; clear hK
    obtain ⟨kg1, kg2⟩ := lay0 (tK hX.out HKA15.out HKG15.out (by decide))
    obtain ⟨ki1, ki2⟩ := lay0 (tK hX.out HKA15.out HKI15.out (by decide))
    obtain ⟨kp1, kp2⟩ := lay0 (tK hX.out HKA15.out HKP15.out (by decide))
    have hbb := hX.out.below w0 (fun k hk => by rw [hk]; exact HGKA.out) HB15.out
    have cZV := pC hbb ZV.out
    unfold Oper.wp
    go_simp
    refine HK.out _ _ ?_ ?_
    · rw [HT.out]; simp only [dd6, Nat.reduceBEq, Bool.or_false, Bool.or_true, Grow.onlyIf_t, beq_self_eq_true]
    · simp only [Nat.reduceBEq, Bool.or_false]; exact ⟨hX, hY⟩
  · refine Grow.cells_step (i := 8) (fun f W hp hn hJ K hK => ?_)
    obtain ⟨hX, hY⟩ := hJ
    clear hp
    rw [HT.out]
    have HK := sA hK; clear hK
    obtain ⟨kg1, kg2⟩ := lay0 (tK hX.out HKA15.out HKG15.out (by decide))
    obtain ⟨ki1, ki2⟩ := lay0 (tK hX.out HKA15.out HKI15.out (by decide))
    obtain ⟨kp1, kp2⟩ := lay0 (tK hX.out HKA15.out HKP15.out (by decide))
    have hbb := hX.out.below w0 (fun k hk => by rw [hk]; exact HGKA.out) HB15.out
    have cZV := pC hbb ZV.out
    unfold Oper.wp
    go_simp
    refine HK.out _ _ ?_ ?_
    · rw [HT.out]; simp only [Nat.reduceBEq, Bool.or_false, Bool.or_true, Grow.onlyIf_t, beq_self_eq_true]
    · simp only [Nat.reduceBEq, Bool.or_false]; exact ⟨hX, hY⟩
  · refine Grow.cells_step (i := 9) (fun f W hp hn hJ K hK => ?_)
    obtain ⟨hX, hY⟩ := hJ
    have dd8 : f 8 = true := hp { on := 8, ground := .data } (by simp) (by rfl)
    clear hp
    rw [HT.out]; simp only [dd8, Grow.onlyIf_t]
    have HK := sA hK; clear hK
    obtain ⟨kg1, kg2⟩ := lay0 (tK hX.out HKA15.out HKG15.out (by decide))
    obtain ⟨ki1, ki2⟩ := lay0 (tK hX.out HKA15.out HKI15.out (by decide))
    obtain ⟨kp1, kp2⟩ := lay0 (tK hX.out HKA15.out HKP15.out (by decide))
    have hbb := hX.out.below w0 (fun k hk => by rw [hk]; exact HGKA.out) HB15.out
    have cZV := pC hbb ZV.out
    unfold Oper.wp
    go_simp
    refine HK.out _ _ ?_ ?_
    · rw [HT.out]; simp only [dd8, Nat.reduceBEq, Bool.or_false, Bool.or_true, Grow.onlyIf_t, beq_self_eq_true]
    · simp only [Nat.reduceBEq, Bool.or_false]; exact ⟨hX, hY⟩
  · refine Grow.cells_step (i := 10) (fun f W hp hn hJ K hK => ?_)
    obtain ⟨hX, hY⟩ := hJ
    have dd9 : f 9 = true := hp { on := 9, ground := .data } (by simp) (by rfl)
    clear hp
    rw [HT.out]; simp only [dd9, Grow.onlyIf_t]
    have HK := sA hK; clear hK
    obtain ⟨kg1, kg2⟩ := lay0 (tK hX.out HKA15.out HKG15.out (by decide))
    obtain ⟨ki1, ki2⟩ := lay0 (tK hX.out HKA15.out HKI15.out (by decide))
    obtain ⟨kp1, kp2⟩ := lay0 (tK hX.out HKA15.out HKP15.out (by decide))
    have hbb := hX.out.below w0 (fun k hk => by rw [hk]; exact HGKA.out) HB15.out
    have cZV := pC hbb ZV.out
    unfold Oper.wp
    go_simp
    refine HK.out _ _ ?_ ?_
    · rw [HT.out]; simp only [dd9, Nat.reduceBEq, Bool.or_false, Bool.or_true, Grow.onlyIf_t, beq_self_eq_true]
    · simp only [Nat.reduceBEq, Bool.or_false]; exact ⟨hX, hY⟩
  · refine Grow.cells_step (i := 11) (fun f W hp hn hJ K hK => ?_)
    obtain ⟨hX, hY⟩ := hJ
    have dd10 : f 10 = true := hp { on := 10, ground := .data } (by simp) (by rfl)
    clear hp
    rw [HT.out]; simp only [dd10, Grow.onlyIf_t]
    have HK := sA hK; clear hK
    obtain ⟨kg1, kg2⟩ := lay0 (tK hX.out HKA15.out HKG15.out (by decide))
    obtain ⟨ki1, ki2⟩ := lay0 (tK hX.out HKA15.out HKI15.out (by decide))
    obtain ⟨kp1, kp2⟩ := lay0 (tK hX.out HKA15.out HKP15.out (by decide))
    have hbb := hX.out.below w0 (fun k hk => by rw [hk]; exact HGKA.out) HB15.out
    have cZV := pC hbb ZV.out
    unfold Oper.wp
    go_simp
    refine HK.out _ _ ?_ ?_
    · rw [HT.out]; simp only [dd10, Nat.reduceBEq, Bool.or_false, Bool.or_true, Grow.onlyIf_t, beq_self_eq_true]
    · simp only [Nat.reduceBEq, Bool.or_false]; exact ⟨hX, hY⟩
  · refine Grow.cells_step (i := 12) (fun f W hp hn hJ K hK => ?_)
    obtain ⟨hX, hY⟩ := hJ
    have dd7 : f 7 = true := hp { on := 7, ground := .data } (by simp) (by rfl)
    have dd11 : f 11 = true := hp { on := 11, ground := .data } (by simp) (by rfl)
    clear hp
    rw [HT.out]; simp only [dd7, dd11, Grow.onlyIf_t]
    have HK := sA hK; clear hK
    obtain ⟨kg1, kg2⟩ := lay0 (tK hX.out HKA15.out HKG15.out (by decide))
    obtain ⟨ki1, ki2⟩ := lay0 (tK hX.out HKA15.out HKI15.out (by decide))
    obtain ⟨kp1, kp2⟩ := lay0 (tK hX.out HKA15.out HKP15.out (by decide))
    have hbb := hX.out.below w0 (fun k hk => by rw [hk]; exact HGKA.out) HB15.out
    have cZV := pC hbb ZV.out
    unfold Oper.wp
    go_simp
    refine HK.out _ _ ?_ ?_
    · rw [HT.out]; simp only [dd7, dd11, Nat.reduceBEq, Bool.or_false, Bool.or_true, Grow.onlyIf_t, beq_self_eq_true]
    · simp only [Nat.reduceBEq, Bool.or_false]; exact ⟨hX, hY⟩
  · refine Grow.cells_step (i := 13) (fun f W hp hn hJ K hK => ?_)
    obtain ⟨hX, hY⟩ := hJ
    have dd12 : f 12 = true := hp { on := 12, ground := .data } (by simp) (by rfl)
    clear hp
    rw [HT.out]; simp only [dd12, Grow.onlyIf_t]
    have HK := sA hK; clear hK
    obtain ⟨kg1, kg2⟩ := lay0 (tK hX.out HKA15.out HKG15.out (by decide))
    obtain ⟨ki1, ki2⟩ := lay0 (tK hX.out HKA15.out HKI15.out (by decide))
    obtain ⟨kp1, kp2⟩ := lay0 (tK hX.out HKA15.out HKP15.out (by decide))
    have hbb := hX.out.below w0 (fun k hk => by rw [hk]; exact HGKA.out) HB15.out
    have cZV := pC hbb ZV.out
    unfold Oper.wp
    go_simp
    refine HK.out _ _ ?_ ?_
    · rw [HT.out]; simp only [dd12, Nat.reduceBEq, Bool.or_false, Bool.or_true, Grow.onlyIf_t, beq_self_eq_true]
    · simp only [Nat.reduceBEq, Bool.or_false]; exact ⟨hX, hY⟩
  · refine Grow.cells_step (i := 14) (fun f W hp hn hJ K hK => ?_)
    obtain ⟨hX, hY⟩ := hJ
    have dd13 : f 13 = true := hp { on := 13, ground := .data } (by simp) (by rfl)
    clear hp
    rw [HT.out]; simp only [dd13, Grow.onlyIf_t]
    have HK := sA hK; clear hK
    obtain ⟨kg1, kg2⟩ := lay0 (tK hX.out HKA15.out HKG15.out (by decide))
    obtain ⟨ki1, ki2⟩ := lay0 (tK hX.out HKA15.out HKI15.out (by decide))
    obtain ⟨kp1, kp2⟩ := lay0 (tK hX.out HKA15.out HKP15.out (by decide))
    have hbb := hX.out.below w0 (fun k hk => by rw [hk]; exact HGKA.out) HB15.out
    have cZV := pC hbb ZV.out
    unfold Oper.wp
    go_simp
    refine HK.out _ _ ?_ ?_
    · rw [HT.out]; simp only [dd13, Nat.reduceBEq, Bool.or_false, Bool.or_true, Grow.onlyIf_t, beq_self_eq_true]
    · simp only [Nat.reduceBEq, Bool.or_false]; exact ⟨hX, hY⟩
  · refine Grow.cells_step (i := 15) (fun f W hp hn hJ K hK => ?_)
    obtain ⟨hX, hY⟩ := hJ
    clear hp
    rw [HT.out]
    have HK := sA hK; clear hK
    obtain ⟨kg1, kg2⟩ := lay0 (tK hX.out HKA15.out HKG15.out (by decide))
    obtain ⟨ki1, ki2⟩ := lay0 (tK hX.out HKA15.out HKI15.out (by decide))
    obtain ⟨kp1, kp2⟩ := lay0 (tK hX.out HKA15.out HKP15.out (by decide))
    have hbb := hX.out.below w0 (fun k hk => by rw [hk]; exact HGKA.out) HB15.out
    have cZV := pC hbb ZV.out
    unfold Oper.wp
    go_simp
    refine HK.out _ _ ?_ ?_
    · rw [HT.out]; simp only [Nat.reduceBEq, Bool.or_false, Bool.or_true, Grow.onlyIf_t, beq_self_eq_true]
    · simp only [Nat.reduceBEq, Bool.or_false]; exact ⟨hX, hY⟩
  · refine Grow.cells_step (i := 16) (fun f W hp hn hJ K hK => ?_)
    obtain ⟨hX, hY⟩ := hJ
    have dd15 : f 15 = true := hp { on := 15, ground := .data } (by simp) (by rfl)
    have dd1 : f 1 = true := hp { on := 1, ground := .data } (by simp) (by rfl)
    clear hp
    have HY := hY.out
    rw [HT.out]; simp only [dd15, dd1, Grow.onlyIf_t]
    have HK := sA hK; clear hK
    have hcl := blk_cell HY 6; have hfr := blk_frozen HY 6; simp only [List.getElem?_toArray, List.getElem?_cons_zero, List.getElem?_cons_succ] at hcl
    unfold Oper.wp
    go_simp
    refine HK.out _ _ ?_ ?_
    · rw [HT.out]; simp only [dd15, dd1, Nat.reduceBEq, Bool.or_false, Bool.or_true, Grow.onlyIf_t, beq_self_eq_true]
    · simp only [Nat.reduceBEq, Bool.or_false, Bool.or_true, Grow.onlyIf_t, beq_self_eq_true]; exact ⟨⟨hX.out.trans (Tch.set rfl)⟩, ⟨by have h := blk_set HY 6 (.int .i64 pl.o); simpa only [List.setIfInBounds_toArray, List.set_cons_zero, List.set_cons_succ] using h⟩⟩
  · refine Grow.cells_step (i := 17) (fun f W hp hn hJ K hK => ?_)
    obtain ⟨hX, hY⟩ := hJ
    clear hp
    rw [HT.out]
    have HK := sA hK; clear hK
    obtain ⟨kg1, kg2⟩ := lay0 (tK hX.out HKA15.out HKG15.out (by decide))
    obtain ⟨ki1, ki2⟩ := lay0 (tK hX.out HKA15.out HKI15.out (by decide))
    obtain ⟨kp1, kp2⟩ := lay0 (tK hX.out HKA15.out HKP15.out (by decide))
    have hbb := hX.out.below w0 (fun k hk => by rw [hk]; exact HGKA.out) HB15.out
    have cZV := pC hbb ZV.out
    unfold Oper.wp
    go_simp
    refine HK.out _ _ ?_ ?_
    · rw [HT.out]; simp only [Nat.reduceBEq, Bool.or_false, Bool.or_true, Grow.onlyIf_t, beq_self_eq_true]
    · simp only [Nat.reduceBEq, Bool.or_false]; exact ⟨hX, hY⟩
  · refine Grow.cells_step (i := 18) (fun f W hp hn hJ K hK => ?_)
    obtain ⟨hX, hY⟩ := hJ
    have dd17 : f 17 = true := hp { on := 17, ground := .data } (by simp) (by rfl)
    have dd3 : f 3 = true := hp { on := 3, ground := .data } (by simp) (by rfl)
    clear hp
    have HY := hY.out
    rw [HT.out]; simp only [dd17, dd3, Grow.onlyIf_t]
    have HK := sA hK; clear hK
    have hcl := blk_cell HY 7; have hfr := blk_frozen HY 7; simp only [List.getElem?_toArray, List.getElem?_cons_zero, List.getElem?_cons_succ] at hcl
    unfold Oper.wp
    go_simp
    refine HK.out _ _ ?_ ?_
    · rw [HT.out]; simp only [dd17, dd3, Nat.reduceBEq, Bool.or_false, Bool.or_true, Grow.onlyIf_t, beq_self_eq_true]
    · simp only [Nat.reduceBEq, Bool.or_false, Bool.or_true, Grow.onlyIf_t, beq_self_eq_true]; exact ⟨⟨hX.out.trans (Tch.set rfl)⟩, ⟨by have h := blk_set HY 7 (.int .i64 pl.c); simpa only [List.setIfInBounds_toArray, List.set_cons_zero, List.set_cons_succ] using h⟩⟩
  · refine Grow.cells_step (i := 19) (fun f W hp hn hJ K hK => ?_)
    obtain ⟨hX, hY⟩ := hJ
    clear hp
    rw [HT.out]
    have HK := sA hK; clear hK
    obtain ⟨kg1, kg2⟩ := lay0 (tK hX.out HKA15.out HKG15.out (by decide))
    obtain ⟨ki1, ki2⟩ := lay0 (tK hX.out HKA15.out HKI15.out (by decide))
    obtain ⟨kp1, kp2⟩ := lay0 (tK hX.out HKA15.out HKP15.out (by decide))
    have hbb := hX.out.below w0 (fun k hk => by rw [hk]; exact HGKA.out) HB15.out
    have cZV := pC hbb ZV.out
    unfold Oper.wp
    go_simp
    refine HK.out _ _ ?_ ?_
    · rw [HT.out]; simp only [Nat.reduceBEq, Bool.or_false, Bool.or_true, Grow.onlyIf_t, beq_self_eq_true]
    · simp only [Nat.reduceBEq, Bool.or_false]; exact ⟨hX, hY⟩
  · refine Grow.cells_step (i := 20) (fun f W hp hn hJ K hK => ?_)
    obtain ⟨hX, hY⟩ := hJ
    have dd19 : f 19 = true := hp { on := 19, ground := .data } (by simp) (by rfl)
    have dd5 : f 5 = true := hp { on := 5, ground := .data } (by simp) (by rfl)
    clear hp
    have HY := hY.out
    rw [HT.out]; simp only [dd19, dd5, Grow.onlyIf_t]
    have HK := sA hK; clear hK
    have hcl := blk_cell HY 8; have hfr := blk_frozen HY 8; simp only [List.getElem?_toArray, List.getElem?_cons_zero, List.getElem?_cons_succ] at hcl
    unfold Oper.wp
    go_simp
    refine HK.out _ _ ?_ ?_
    · rw [HT.out]; simp only [dd19, dd5, Nat.reduceBEq, Bool.or_false, Bool.or_true, Grow.onlyIf_t, beq_self_eq_true]
    · simp only [Nat.reduceBEq, Bool.or_false, Bool.or_true, Grow.onlyIf_t, beq_self_eq_true]; exact ⟨⟨hX.out.trans (Tch.set rfl)⟩, ⟨by have h := blk_set HY 8 (.int .i64 pl.h); simpa only [List.setIfInBounds_toArray, List.set_cons_zero, List.set_cons_succ] using h⟩⟩
  · refine Grow.cells_step (i := 21) (fun f W hp hn hJ K hK => ?_)
    obtain ⟨hX, hY⟩ := hJ
    clear hp
    rw [HT.out]
    have HK := sA hK; clear hK
    obtain ⟨kg1, kg2⟩ := lay0 (tK hX.out HKA15.out HKG15.out (by decide))
    obtain ⟨ki1, ki2⟩ := lay0 (tK hX.out HKA15.out HKI15.out (by decide))
    obtain ⟨kp1, kp2⟩ := lay0 (tK hX.out HKA15.out HKP15.out (by decide))
    have hbb := hX.out.below w0 (fun k hk => by rw [hk]; exact HGKA.out) HB15.out
    have cZV := pC hbb ZV.out
    unfold Oper.wp
    go_simp
    refine HK.out _ _ ?_ ?_
    · rw [HT.out]; simp only [Nat.reduceBEq, Bool.or_false, Bool.or_true, Grow.onlyIf_t, beq_self_eq_true]
    · simp only [Nat.reduceBEq, Bool.or_false]; exact ⟨hX, hY⟩
  · refine Grow.cells_step (i := 22) (fun f W hp hn hJ K hK => ?_)
    obtain ⟨hX, hY⟩ := hJ
    have dd21 : f 21 = true := hp { on := 21, ground := .data } (by simp) (by rfl)
    have dd14 : f 14 = true := hp { on := 14, ground := .data } (by simp) (by rfl)
    clear hp
    have HY := hY.out
    rw [HT.out]; simp only [dd21, dd14, Grow.onlyIf_t]
    have HK := sA hK; clear hK
    have hcl := blk_cell HY 9; have hfr := blk_frozen HY 9; simp only [List.getElem?_toArray, List.getElem?_cons_zero, List.getElem?_cons_succ] at hcl
    unfold Oper.wp
    go_simp
    refine HK.out _ _ ?_ ?_
    · rw [HT.out]; simp only [dd21, dd14, Nat.reduceBEq, Bool.or_false, Bool.or_true, Grow.onlyIf_t, beq_self_eq_true]
    · simp only [Nat.reduceBEq, Bool.or_false, Bool.or_true, Grow.onlyIf_t, beq_self_eq_true]; exact ⟨⟨hX.out.trans (Tch.set rfl)⟩, ⟨by have h := blk_set HY 9 (.int .i64 rm); simpa only [List.setIfInBounds_toArray, List.set_cons_zero, List.set_cons_succ] using h⟩⟩
  intro f w16 hf hJ
  obtain ⟨hT, hX⟩ := hJ; replace hT := hT.out; replace hX := hX.out
  rw [HT.out]
  simp only [hf 0 (by decide), hf 1 (by decide), hf 2 (by decide), hf 3 (by decide), hf 4 (by decide), hf 5 (by decide), hf 6 (by decide), hf 7 (by decide), hf 8 (by decide), hf 9 (by decide), hf 10 (by decide), hf 11 (by decide), hf 12 (by decide), hf 13 (by decide), hf 14 (by decide), hf 15 (by decide), hf 16 (by decide), hf 17 (by decide), hf 18 (by decide), hf 19 (by decide), hf 20 (by decide), hf 21 (by decide), hf 22 (by decide), Grow.onlyIf_t] at hX ⊢
  clear hf HT T
  (try simp only [List.setIfInBounds_toArray, List.set_cons_zero, List.set_cons_succ] at hX)
  have HB16 := sA (hT.below w0 (fun k hk => by rw [hk]; exact HGKA.out) HB15.out); have HKG16 := sA (tK hT HKA15.out HKG15.out (by decide)); have HKI16 := sA (tK hT HKA15.out HKI15.out (by decide)); have HKP16 := sA (tK hT HKA15.out HKP15.out (by decide)); have HR116 := sA (row_tch HR115.out hT HKA15.out (by decide)); have HR216 := sA (row_tch HR215.out hT HKA15.out (by decide)); have HR016 := sA (row_tch HR015.out hT HKA15.out (by decide)); have HSZ16 := sA (Nat.le_trans HSZ15.out hT.size); have HKA16 := sA hX; clear hX hT
  obtain ⟨kg1, kg2⟩ := lay0 HKG16.out
  obtain ⟨ki1, ki2⟩ := lay0 HKI16.out
  obtain ⟨kp1, kp2⟩ := lay0 HKP16.out
  obtain ⟨ka1, ka2⟩ := lay0 HKA16.out
  have cZV := pC HB16.out ZV.out
  go_wp2_with fail
  clear kg1 kg2 ki1 ki2 kp1 kp2 ka1 ka2 cZV
  refine Grow.wp_region_tail 5 (by kernel_rfl) (by kernel_rfl) ?_
  dsimp only [List.take, List.drop]
  repeat ((first | (refine Grow.lexP_do _ (by rfl) (by rfl) (by intro W hj; obtain ⟨kg1, kg2⟩ := lay hj.out HKG16.out; obtain ⟨ki1, ki2⟩ := lay hj.out HKI16.out; obtain ⟨kp1, kp2⟩ := lay hj.out HKP16.out; obtain ⟨ka1, ka2⟩ := lay hj.out HKA16.out; have cZV := pC (bC HB16.out hj.out) ZV.out; go_simp; first | exact Grow.UponB.val) ?_)); refine Grow.lexP_norm (fun K hK => ?_); go_simp; refine hK _ ?_; clear hK K)
  refine Grow.lexP_nil (fun w17 hj => ?_)
  have hb := hj.out; clear hj
  have HB17 := sA (bC HB16.out hb); have HKG17 := sA (bB HKG16.out hb); have HKI17 := sA (bB HKI16.out hb); have HKP17 := sA (bB HKP16.out hb); have HKA17 := sA (bB HKA16.out hb); have HR117 := sA (Kd.R_below HR116.out hb); have HR217 := sA (Kd.R_below HR216.out hb); have HR017 := sA (Kd.R_below HR016.out hb); have HSZ17 := sA (Nat.le_trans HSZ16.out hb.size); clear hb
  refine wpList_copyInts rfl _ _ _ _ rfl 2 (by kernel_rfl) (by kernel_rfl) (g := ga) (n := len) (cap := cR) (m := 13) (b := ab) (ys := [(pl.o), 0, 0, (0), (0), 0, pl.o, pl.c, pl.h, rm, (0), 0, 0]) rfl rfl rfl HKA17.out rfl HR117.out (show 13 ≤ len from HNE.out.2.2) (by have := HNE.out.2.2; omega) ?_
  intro w18 hr hT
  have eY : startA x kv = [(pl.o), 0, 0, (0), (0), 0, pl.o, pl.c, pl.h, rm, (0), 0, 0] := by
    unfold startA
    simp only [HPL.out, HRM.out]
  have eF : (x.placeAt kv).o = pl.o := by rw [HPL.out]
  obtain ⟨ck, hck⟩ := own_blk HR117.out rfl
  have hend := And.intro (hT.below w0 (fun k hk => by rw [hk]; exact HGE.out.2) HB17.out) (And.intro (tK hT hck HKG17.out (by decide)) (And.intro hr (And.intro (int_keep HR217.out (fun k hk hl => hT.same k hl (fun e => HNE.out.1 (by rw [hk, e])))) (int_keep HR017.out (fun k hk hl => hT.same k hl (fun e => HNE.out.2.1 (by rw [hk, e])))))))
  have HEND := sA hend; have HEY := sA eY; have HEF := sA eF
  clear hend hr hT hck eY eF
  go_wp2
  refine bodyPost_end (v := .tuple #[]) (by simp [results, Tryz.results68, go_sem]) rfl ⟨rfl, ?_⟩
  obtain ⟨e1, e2, e3, e4, e5⟩ := HEND.out
  refine ⟨e1, ?_, ?_, e4, e5⟩
  · rw [HEF.out]
    exact e2
  · rw [HEY.out]; exact e3
end
end Go.Proofs.YtlhpbpkefkabgaaGreat.L1
