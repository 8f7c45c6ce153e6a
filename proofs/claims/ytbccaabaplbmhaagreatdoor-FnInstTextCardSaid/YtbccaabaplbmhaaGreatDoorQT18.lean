/- A text, as the program reads it. The program's printer: its row of bytes; a word. strconv.FormatInt at base 10, as the printer uses it. -/
import Derived.Test.YtbccaabaplbmhaaGreatDoorQT17
import Derived.Test.YtbccaabaplbmhaaGreatDoorQT6
import Derived.Lib.AppendStr
import Derived.Test.YtbccaabaplbmhaaGreatDoorQT8
import Derived.Lib.AppendIntMem
import Derived.Shelf.Strconv.Itoa4
namespace Go.Proofs.YtbccaabaplbmhaaGreatDoor.L1
open Go.RowKit Go.Proofs.YtbccaabaplbmhaaGreatDoorW.PrintWords Go.Proofs.YtbccaabaplbmhaaGreatDoor.B
set_option linter.unusedVariables false
set_option linter.unusedSimpArgs false
attribute [local go_sem] Oper.semAt_some mk_cell mk_frozen
theorem conv_text {w : World} {A : Option Addr} {c : Nat} {bs : List Int} (hr : kByte.C w A bs.length bs) (ht : Tame bs) (hA : bs = [] ∨ ∃ b off, A = some ⟨b, off, none⟩) :
    ∃ st : ByteArray, bytesOf st = bs ∧ ∀ W : World, Below w.heap.size w W → (convert 22 9 (.slice A bs.length c)).run Tryz.prog W = .ok (.string st) W := by
  rcases hA with rfl | ⟨b, off, rfl⟩
  · refine ⟨ByteArray.empty, rfl, fun W _ => ?_⟩
    rw [run_convert_bytes_string W 22 9 5 _ _ c Tryz.underlying22 Tryz.underlying5 Tryz.underlying9]
    cases A <;> simp [Conv.bytesToString, loadCells]
    all_goals rfl
  · refine ⟨strOfNums bs, ?_, fun W hW => Go.run_convert_bytes_arg W 22 5 Tryz.underlying22 Tryz.underlying5 b off bs.length c bs rfl (fun i hi => ?_) 9 Tryz.underlying9⟩
    · exact ofU_toU ht.2
    · obtain ⟨ad, e0, t0, _⟩ := Kd.flat_cells (d := kByte) rfl (Kd.C_below hr hW) 0 i hi
      cases e0
      have := t0 _ rfl
      rwa [Nat.mul_one, Addr.add_lit] at this
theorem line_keep {W W' : World} {gi gk base : Nat} {cI cK : Array Value} {v0 v1 v2 : Value} {x : Inst} {ok0 ok1 ok2 : Nat → Prop} (hT : Tch (fun k => k = gi ∨ k = gk ∨ some k = v0.ownBlock ∨ some k = v1.ownBlock ∨ some k = v2.ownBlock) W W')
    (m1 : W.heap[gi]? = some (.cells cI 27 (0, 0))) (m2 : W.heap[gk]? = some (.cells cK 3 (0, 0))) (r0 : kVeh.R 45 W base ok0 v0 x.vs) (r1 : kReq.R 48 W base ok1 v1 x.qs) (r2 : kRoad.R 51 W base ok2 v2 x.rs) {k : Nat} {o : Obj} (hk : W.heap[k]? = some o)
    (ho : ∀ cs T fr, o = .cells cs T fr → T ∉ [27, 3, 45, 48, 51]) : W'.heap[k]? = some o := by
  refine (hT.same k (blk_lt' hk) ?_).trans hk
  rintro (rfl | rfl | h | h | h)
  · rw [m1] at hk; exact ho _ _ _ (Option.some.inj hk).symm (by decide)
  · rw [m2] at hk; exact ho _ _ _ (Option.some.inj hk).symm (by decide)
  · obtain ⟨cs, fr, e⟩ := own_cells r0 k h.symm
    rw [e] at hk; exact ho _ _ _ (Option.some.inj hk).symm (by decide)
  · obtain ⟨cs, fr, e⟩ := own_cells r1 k h.symm
    rw [e] at hk; exact ho _ _ _ (Option.some.inj hk).symm (by decide)
  · obtain ⟨cs, fr, e⟩ := own_cells r2 k h.symm
    rw [e] at hk; exact ho _ _ _ (Option.some.inj hk).symm (by decide)
set_option maxRecDepth 100000 in
set_option maxHeartbeats 8000000 in
theorem impl_ParseInst (w : World) (hG : Gl w) (hE : w.cell? ⟨1, 0, none⟩ = some (.iface 121 (.agg #[.pointer (some ⟨10, 67, none⟩)]))) (A : Option Addr) (c : Nat) (bs : List Int) (hr : kByte.C w A bs.length bs) (ht : Tame bs) (hA : bs = [] ∨ ∃ b off, A = some ⟨b, off, none⟩) :
    Calls Tryz.prog 7 #[.slice A bs.length c] w fun e w' => ∃ u, e = .returned u ∧ OwnR w' w.heap.size u (parseP bs) ∧ Below w.heap.size w w' := by
  have HG := Aside0.mk (And.intro hG (And.intro hE ht))
  obtain ⟨st, hst, hcv⟩ := conv_text (c := c) hr ht hA
  clear hG hE hr ht hA
  have HOut0 := Aside0.mk (al_new w (.cells #[.int .i64 0, .int .i64 0, .slice none 0 0, .slice none 0 0, .slice none 0 0] 32))
  have HB0 := Aside0.mk (below_alloc (Below.refl w.heap.size w) (.cells #[.int .i64 0, .int .i64 0, .slice none 0 0, .slice none 0 0, .slice none 0 0] 32))
  by_cases hlong : 300000 < bs.length
  · have p0 : decide ((300000 : Int) < (bs.length : Int)) = true := decide_eq_true (by omega)
    have HV := Aside0.mk (show parseP bs = ⟨1, 0, noInst⟩ by unfold parseP; rw [if_pos hlong])
    clear hlong hcv hst
    obtain ⟨out1, out2⟩ := lay (Below.refl _ _) HOut0.out
    go_enter Tryz.func7, Tryz.ntmps7
    go_wp2
    refine bodyPost_ret (results_cell Tryz.results7 rfl (al_new w _) Tryz.underlying32 rfl (by kernel_rfl)) rfl ?_
    exact ⟨_, rfl, by rw [HV.out]; exact OwnR.none, bel_box (Below.refl _ _) _⟩
  have p0 : decide ((300000 : Int) < (bs.length : Int)) = false := decide_eq_false (by omega)
  have HV := Aside0.mk (show parseP bs = parseFrom noInst 0 (pieces 10 (bytesOf st)) by unfold parseP; rw [if_neg hlong, hst])
  have HSL := Aside0.mk (show st.size = bs.length by rw [← bytesOf_len, hst])
  have HBL := Aside0.mk (show bs.length ≤ 300000 by omega)
  clear hlong hst
  refine (callsIn_wide (n := 6)).1 ?_
  refine callsIn_of_wp_marks Tryz.func7 rfl trivial ?_ rfl
  simp only [Tryz.ntmps7, List.size_toArray, List.length_cons, List.length_nil, Nat.reduceAdd, Nat.reduceSub, Array.replicate_succ, Array.replicate_zero, List.push_toArray, List.append_toArray, List.nil_append, List.cons_append]
  obtain ⟨out1, out2⟩ := lay (Below.refl _ _) HOut0.out
  have hb1 := bel_box HB0.out (.cells #[.slice none 0 0, .slice none 0 0, .slice none 0 0] 27)
  have hb2 := bel_box hb1 (.cells #[.int .i64 0] 3)
  have hb3 := bel_box hb2 (.cells #[.int .i64 0] 2)
  have hc3 := hcv _ hb3
  have k0 := blk_box (blk_box (blk_box HOut0.out (.cells #[.slice none 0 0, .slice none 0 0, .slice none 0 0] 27)) (.cells #[.int .i64 0] 3)) (.cells #[.int .i64 0] 2)
  have k1 := blk_box (blk_box (al_new (w.alloc (.cells #[.int .i64 0, .int .i64 0, .slice none 0 0, .slice none 0 0, .slice none 0 0] 32)) (.cells #[.slice none 0 0, .slice none 0 0, .slice none 0 0] 27)) (.cells #[.int .i64 0] 3)) (.cells #[.int .i64 0] 2)
  have k2 := blk_box (al_new ((w.alloc (.cells #[.int .i64 0, .int .i64 0, .slice none 0 0, .slice none 0 0, .slice none 0 0] 32)).alloc (.cells #[.slice none 0 0, .slice none 0 0, .slice none 0 0] 27)) (.cells #[.int .i64 0] 3)) (.cells #[.int .i64 0] 2)
  have k3 := al_new (((w.alloc (.cells #[.int .i64 0, .int .i64 0, .slice none 0 0, .slice none 0 0, .slice none 0 0] 32)).alloc (.cells #[.slice none 0 0, .slice none 0 0, .slice none 0 0] 27)).alloc (.cells #[.int .i64 0] 3)) (.cells #[.int .i64 0] 2)
  simp only [al_size] at k1 k2 k3
  have HM := Aside0.mk (And.intro hb3 (And.intro k0 (And.intro k1 (And.intro k2 k3))))
  have hz4 : ((((w.alloc (.cells #[.int .i64 0, .int .i64 0, .slice none 0 0, .slice none 0 0, .slice none 0 0] 32)).alloc (.cells #[.slice none 0 0, .slice none 0 0, .slice none 0 0] 27)).alloc (.cells #[.int .i64 0] 3)).alloc (.cells #[.int .i64 0] 2)).heap.size = w.heap.size + 1 + 1 + 1 + 1 := by simp only [al_size]
  have HZ := Aside0.mk hz4
  clear hb1 hb2 hb3 k0 k1 k2 k3 hcv hz4
  gi_wp2
  generalize hw4 : (((w.alloc (.cells #[.int .i64 0, .int .i64 0, .slice none 0 0, .slice none 0 0, .slice none 0 0] 32)).alloc (.cells #[.slice none 0 0, .slice none 0 0, .slice none 0 0] 27)).alloc (.cells #[.int .i64 0] 3)).alloc (.cells #[.int .i64 0] 2) = w4 at HM HZ hc3 ⊢
  clear hw4 hc3 out1 out2
  refine ⟨trivial, ?_⟩
  refine (callsIn_wide.2 (impl_Lines w4 st)).mono ?_
  rintro e w' ⟨rfl, rfl⟩
  gi_wp2
  have HS4 := Aside0.mk (show SBox (w4.alloc (.cells #[.string st] 9)) w4.heap.size st from al_new w4 _)
  have HI0 := Aside0.mk (show Inv w w4.heap.size bs 0 st (w4.alloc (.cells #[.string st] 9)) from
    ⟨noInst, none, none, none, 0, 0, 0, ⟨HV.out, ⟨by decide, by decide, by decide⟩, by rw [HSL.out]; omega⟩, blk_box HM.out.2.1 _, blk_box HM.out.2.2.1 _, blk_box HM.out.2.2.2.1 _, blk_box HM.out.2.2.2.2 _, Kd.R_nil _ _ _ _ _, Kd.R_nil _ _ _ _ _, Kd.R_nil _ _ _ _ _, bel_box HM.out.1 _⟩)
  refine wp_lines 6 (by omega) w4.heap.size w.heap.size st rfl rfl HS4.out (by rw [HSL.out]; have := HBL.out; omega) (by rw [HZ.out]; omega) (by simp only [al_size]; rw [HZ.out]; omega) (Inv w w4.heap.size bs) (Bad w bs) (fun k s W W' h ho => h.off (by rw [HZ.out]; omega) (Nat.le_refl _) ho) (fun W W' h ho => h.off (by rw [HZ.out]; omega) (Nat.le_refl _) ho) HI0.out
    (fun x => { tmps := #[.slice A bs.length c, undef, .pointer (some ⟨w.heap.size, 0, none⟩), .pointer (some ⟨w.heap.size + 1, 0, none⟩), .pointer (some ⟨w.heap.size + 1 + 1, 0, none⟩), .pointer (some ⟨w.heap.size + 1 + 1 + 1, 0, none⟩), .string x, undef, undef, .slice A bs.length c, .int .i64 bs.length, .bool false, undef, .slice A bs.length c, .string st, .func (.func 44) #[] #[.pointer (some ⟨w4.heap.size, 0, none⟩)], .string x, undef, undef, undef, undef, undef, undef, undef, undef, undef, undef, undef, undef, undef, undef, undef, undef, undef, undef, undef, undef, undef, undef], defers := [] }) ?assign ?body ?done ?stop
  case assign =>
    intro l x W K hK
    gi_wp2
    exact hK
  case body =>
    rintro l k s W ⟨x, A0, A1, A2, c0, c1, c2, ⟨hP, htiny, hkl⟩, m0, m1, m2, m3, r0, r1, r2, hb⟩ hs0 hS
    have HX := Aside0.mk (And.intro hP (And.intro htiny (And.intro hkl (And.intro hs0 hS))))
    have HR0 := Aside0.mk r0; have HR1 := Aside0.mk r1; have HR2 := Aside0.mk r2; have HB := Aside0.mk hb
    have HM0 := Aside0.mk m0; have HM1 := Aside0.mk m1; have HM2 := Aside0.mk m2; have HM3 := Aside0.mk m3
    have q0 : IntKind.i64.wrap ((k : Int) + 1) = (k : Int) + 1 := IntWalk.i64_in _ (by have := HBL.out; omega)
    clear hP htiny r0 r1 r2 hb hs0 hS m0 m1 m2 m3 hkl
    obtain ⟨n1, n2⟩ := lay (Below.refl _ _) HM3.out
    have T1 := Aside0.mk (Tch.set (S := fun b => b = w.heap.size + 1 + 1 + 1) (W := W) (b := w.heap.size + 1 + 1 + 1) (o := 0) (v := .int .i64 ((k : Int) + 1)) rfl)
    have N1 := Aside0.mk (blk_set HM3.out 0 (.int .i64 ((k : Int) + 1)))
    gi_wp2
    generalize W.setCell ⟨w.heap.size + 1 + 1 + 1, 0, none⟩ (.int .i64 ((k : Int) + 1)) = W1 at T1 N1 ⊢
    clear n1 n2
    have N1 := Aside0.mk (show W1.heap[w.heap.size + 1 + 1 + 1]? = some (.cells #[.int .i64 ((k : Int) + 1)] 2 (0, 0)) from N1.out)
    have O1 := Aside0.mk (tch_at T1.out (show ¬ w.heap.size = w.heap.size + 1 + 1 + 1 by omega) HM0.out)
    have I1 := Aside0.mk (tch_at T1.out (show ¬ w.heap.size + 1 = w.heap.size + 1 + 1 + 1 by omega) HM1.out)
    have K1 := Aside0.mk (tch_at T1.out (show ¬ w.heap.size + 1 + 1 = w.heap.size + 1 + 1 + 1 by omega) HM2.out)
    have S1 := Aside0.mk (tch_at T1.out (show ¬ w4.heap.size = w.heap.size + 1 + 1 + 1 by rw [HZ.out]; omega) HX.out.2.2.2.2)
    have R01 := Aside0.mk (R_tch HR0.out T1.out HM3.out (by decide))
    have R11 := Aside0.mk (R_tch HR1.out T1.out HM3.out (by decide))
    have R21 := Aside0.mk (R_tch HR2.out T1.out HM3.out (by decide))
    have B1 := Aside0.mk (T1.out.below w (fun b hb => by rw [hb]; omega) HB.out)
    have KR1 := Aside0.mk (KR.of_tch T1.out (fun b hb o ho => by rw [hb, HM3.out] at ho; cases ho; rfl))
    clear T1 HM0 HM1 HM2 HM3 HR0 HR1 HR2 HB
    have hsb := HBL.out
    have hsz : s.size ≤ 300000 := by have := HX.out.2.2.1; omega
    by_cases hi : Lib.indexByte s.data.toList 10 = -1
    · obtain ⟨hh, hs⟩ := cut_miss hi
      have HE := Aside0.mk ((HX.out.1).trans (parse_miss HX.out.2.2.2.1 hi))
      refine ⟨trivial, ?_⟩
      rw [hh]
      refine (CallsIn.inRound l (callsIn_wide.2 (Tryz.strings_HasSuffix s ⟨#[10]⟩ W1 (by omega)))).mono ?_
      rintro e w' ⟨rfl, rfl⟩
      rw [show Lib.hasSuffix s.data.toList (ByteArray.mk #[10]).data.toList = false from hs]
      obtain ⟨n1, n2⟩ := lay (Below.refl _ _) N1.out
      obtain ⟨o1, o2⟩ := lay (Below.refl _ _) O1.out
      clear hi hs hsz
      gi_wp2
      obtain ⟨m5, t5⟩ := set5 O1.out (.int .i64 2) (.int .i64 ((k : Int) + 1)) (.slice none 0 0) (.slice none 0 0) (.slice none 0 0)
      generalize ((((World.setCell _ _ _).setCell _ _).setCell _ _).setCell _ _).setCell _ _ = W5 at m5 t5 ⊢
      refine ⟨KR1.out.trans (KR.of_tch t5 (fun b hb o ho => by rw [hb, O1.out] at ho; cases ho; rfl)), tch_at t5 (show ¬ w4.heap.size = w.heap.size by rw [HZ.out]; omega) S1.out, 2, (k : Int) + 1, HE.out, m5, t5.below w (fun b hb => Nat.le_of_eq hb.symm) B1.out⟩
    · obtain ⟨i, hi2⟩ : ∃ i : Nat, Lib.indexByte s.data.toList 10 = i := ⟨(Lib.indexByte s.data.toList 10).toNat, by have := Lib.indexByte_ge s.data.toList 10; omega⟩
      obtain ⟨hz, hs, _, _, ht⟩ := cut_hit hi2
      have HE := Aside0.mk ((HX.out.1).trans (parse_hit hi2))
      refine ⟨trivial, ?_⟩
      refine (CallsIn.inRound l (callsIn_wide.2 (Tryz.strings_HasSuffix (headL s) ⟨#[10]⟩ W1 (by omega)))).mono ?_
      rintro e w' ⟨rfl, rfl⟩
      rw [show Lib.hasSuffix (headL s).data.toList (ByteArray.mk #[10]).data.toList = true from hs]
      generalize hH : headL s = H at HE hz ⊢
      have HT := Aside0.mk (show k + 1 + (tailL s).size ≤ bs.length by have := HX.out.2.2.1; omega)
      have hq1 : IntKind.i64.wrap ((H.size : Int) - 1) = (i : Int) := by rw [hz, IntWalk.i64_in _ (by omega)]; omega
      have hq2 : i ≤ H.size := by omega
      have hq3 : (i : Int) ≤ (H.size : Int) := by omega
      have hq4 : ¬ (H.size < i) := by omega
      clear hi hi2 hs hH
      have HH := Aside0.mk (And.intro hz (And.intro hsz ht)); clear hz hsz hsb ht
      have F2 := Aside0.mk (al_new w' (.cells #[.int .i64 0] 65))
      have N2 := Aside0.mk (blk_box N1.out (.cells #[.int .i64 0] 65))
      have O2 := Aside0.mk (blk_box O1.out (.cells #[.int .i64 0] 65))
      have I2 := Aside0.mk (blk_box I1.out (.cells #[.int .i64 0] 65))
      have K2 := Aside0.mk (blk_box K1.out (.cells #[.int .i64 0] 65))
      have S2 := Aside0.mk (blk_box S1.out (.cells #[.int .i64 0] 65))
      have R02 := Aside0.mk (Kd.R_alloc R01.out (.cells #[.int .i64 0] 65))
      have R12 := Aside0.mk (Kd.R_alloc R11.out (.cells #[.int .i64 0] 65))
      have R22 := Aside0.mk (Kd.R_alloc R21.out (.cells #[.int .i64 0] 65))
      have B2 := Aside0.mk (bel_box B1.out (.cells #[.int .i64 0] 65))
      have KR2 := Aside0.mk (KR1.out.trans (fun k o h _ => blk_box h (.cells #[.int .i64 0] 65)))
      have HGF := Aside0.mk (blk_lt' S1.out)
      clear N1 O1 I1 K1 S1 R01 R11 R21 B1 KR1
      gi_wp2
      generalize hf : w'.heap.size = gf at F2 HGF ⊢
      generalize w'.alloc (.cells #[.int .i64 0] 65) = W2 at F2 N2 O2 I2 K2 S2 R02 R12 R22 B2 KR2 ⊢
      clear hf
      refine ⟨trivial, ?_⟩
      refine (CallsIn.inRound l (callsIn_wide.2 (impl_line W2 w HG.out.1 (w.heap.size + 1) (w.heap.size + 1 + 1) A0 A1 A2 c0 c1 c2 x I2.out K2.out (Kd.R_mono R02.out (fun _ _ => trivial)) (Kd.R_mono R12.out (fun _ _ => trivial)) (Kd.R_mono R22.out (fun _ _ => trivial)) B2.out (by omega) (by omega) HX.out.2.1 (H.extract 0 i) (by rw [ByteArray.size_extract]; have := HH.out; omega)))).mono ?_
      have HLT := Aside0.mk (lineP_tiny HX.out.2.1 (bytesOf (H.extract 0 i)))
      generalize lineP x (bytesOf (H.extract 0 i)) = pr at HE HLT
      rintro e W3 ⟨hL, hT3⟩
      have lk := fun {b o} => @line_keep W2 W3 _ _ w.heap.size _ _ _ _ _ x _ _ _ hT3 I2.out K2.out R02.out R12.out R22.out b o
      have F3 := Aside0.mk (lk F2.out (by intro cs T fr e; cases e; decide))
      have N3 := Aside0.mk (lk N2.out (by intro cs T fr e; cases e; decide))
      have O3 := Aside0.mk (lk O2.out (by intro cs T fr e; cases e; decide))
      have S3 := Aside0.mk (show SBox W3 w4.heap.size (tailL s) from lk S2.out (by intro cs T fr e; cases e; decide))
      have B3 := Aside0.mk (hT3.below w (fun b hb => by
        rcases hb with rfl | rfl | h | h | h
        · omega
        · omega
        · exact Kd.R_base R02.out b h.symm
        · exact Kd.R_base R12.out b h.symm
        · exact Kd.R_base R22.out b h.symm) B2.out)
      have KR3 := Aside0.mk (KR2.out.trans (fun b o h ho => lk h (by intro cs T fr e; rw [e] at ho; cases ho)))
      clear lk hT3 F2 N2 O2 I2 K2 S2 R02 R12 R22 B2 KR2
      rcases hL with ⟨h0, rfl, k3, u0, u1, u2, i3, r0, r1, r2⟩ | ⟨h0, rfl⟩
      · have HL := Aside0.mk (And.intro h0 (And.intro k3 (And.intro i3 (And.intro r0 (And.intro r1 r2)))))
        clear h0 k3 i3 r0 r1 r2
        gi_wp2
        refine ⟨trivial, ?_⟩
        refine (CallsIn.inRound l (callsIn_wide.2 (as_nil _ W3))).mono ?_
        rintro e w' ⟨rfl, rfl⟩
        gi_wp2
        obtain ⟨h0, k3, i3, r0, r1, r2⟩ := HL.out
        obtain ⟨A3, c3, rfl⟩ := Kd.R_slice r0
        obtain ⟨A4, c4, rfl⟩ := Kd.R_slice r1
        obtain ⟨A5, c5, rfl⟩ := Kd.R_slice r2
        exact ⟨KR3.out, S3.out, pr.2, A3, A4, A5, c3, c4, c5, ⟨HE.out.trans (if_pos h0), HLT.out, HT.out⟩, O3.out, i3, k3, N3.out, R_sep r0 S3.out (by decide), R_sep r1 S3.out (by decide), R_sep r2 S3.out (by decide), B3.out⟩
      · have HL := Aside0.mk h0
        clear h0
        gi_wp2
        refine ⟨trivial, ?_⟩
        refine (CallsIn.inRound l (callsIn_wide.2 (as_hit pr.1 gf _ W3 (pw_cell_below B3.out HG.out.2.1) F3.out))).mono ?_
        rintro e W6 ⟨rfl, F4, T4⟩
        have hgf := HGF.out
        have hz4 := HZ.out
        have N6 := Aside0.mk (tch_at T4 (show ¬ w.heap.size + 1 + 1 + 1 = gf by omega) N3.out)
        have O6 := Aside0.mk (tch_at T4 (show ¬ w.heap.size = gf by omega) O3.out)
        have S6 := Aside0.mk (tch_at T4 (show ¬ w4.heap.size = gf by omega) S3.out)
        have B6 := Aside0.mk (T4.below w (fun b hb => by rw [hb]; omega) B3.out)
        have KR6 := Aside0.mk (KR3.out.trans (KR.of_tch T4 (fun b hb o ho => by rw [hb, F3.out] at ho; cases ho; rfl)))
        clear hgf hz4
        have F6 := Aside0.mk F4
        clear F4 T4
        obtain ⟨f1, f2⟩ := lay (Below.refl _ _) F6.out
        obtain ⟨n1, n2⟩ := lay (Below.refl _ _) N6.out
        obtain ⟨o1, o2⟩ := lay (Below.refl _ _) O6.out
        gi_wp2
        obtain ⟨m5, t5⟩ := set5 O6.out (.int .i64 pr.1) (.int .i64 ((k : Int) + 1)) (.slice none 0 0) (.slice none 0 0) (.slice none 0 0)
        generalize ((((World.setCell _ _ _).setCell _ _).setCell _ _).setCell _ _).setCell _ _ = W5 at m5 t5 ⊢
        exact ⟨KR6.out.trans (KR.of_tch t5 (fun b hb o ho => by rw [hb, O6.out] at ho; cases ho; rfl)), tch_at t5 (show ¬ w4.heap.size = w.heap.size by rw [HZ.out]; omega) S6.out, pr.1, (k : Int) + 1, HE.out.trans (if_neg HL.out), m5, t5.below w (fun b hb => Nat.le_of_eq hb.symm) B6.out⟩
  case done =>
    rintro D k s W hs hD ⟨x, A0, A1, A2, c0, c1, c2, ⟨hP, htiny, hkl⟩, m0, m1, m2, m3, r0, r1, r2, hb⟩ hK
    have HX := Aside0.mk (And.intro hP (And.intro r0 (And.intro r1 (And.intro r2 (And.intro hb (And.intro hK (And.intro m0 hD)))))))
    clear hP htiny hkl r0 r1 r2 hb hK hD
    obtain ⟨o1, o2⟩ := lay (Below.refl _ _) m0
    obtain ⟨i1, i2⟩ := lay (Below.refl _ _) m1
    clear m0 m1 m2 m3
    gi_wp2
    obtain ⟨hP, r0, r1, r2, hb, hK, m0, hD⟩ := HX.out
    obtain ⟨m5, t5⟩ := set5 m0 (.int .i64 0) (.int .i64 0) (.slice A0 x.vs.length c0) (.slice A1 x.qs.length c1) (.slice A2 x.rs.length c2)
    generalize ((((W.setCell _ _).setCell _ _).setCell _ _).setCell _ _).setCell _ _ = W5 at m5 t5 ⊢
    have hK5 : W5.heap[D]? = some (.deferred (some [])) := tch_at t5 (fun e => by rw [e, m0] at hK; cases hK) hK
    have hb5 := t5.below w (fun k hk => Nat.le_of_eq hk.symm) hb
    refine leaves_res hK5 rfl m5 rfl ⟨_, rfl, ?_, ?_⟩
    · rw [hP, parse_end hs]
      exact ⟨_, _, _, rfl, Kd.R_mono (R_mark (R_tch r0 t5 m0 (by decide)) hK5 rfl) (fun _ _ => trivial), Kd.R_mono (R_mark (R_tch r1 t5 m0 (by decide)) hK5 rfl) (fun _ _ => trivial), Kd.R_mono (R_mark (R_tch r2 t5 m0 (by decide)) hK5 rfl) (fun _ _ => trivial)⟩
    · exact (Off.put (bx := 0) (b0 := w.heap.size) _ (by simp only [al_size] at hD; rw [HZ.out] at hD; omega) hK5 rfl).below w (Nat.le_refl _) hb5
  case stop =>
    rintro D W hD ⟨e, l, hP, m0, hb⟩ hK
    gi_wp2
    refine leaves_res hK rfl m0 rfl ⟨_, rfl, ?_, ?_⟩
    · rw [hP]
      exact OwnR.none
    · exact (Off.put (bx := 0) (b0 := w.heap.size) _ (by simp only [al_size] at hD; rw [HZ.out] at hD; omega) hK rfl).below w (Nat.le_refl _) hb
end Go.Proofs.YtbccaabaplbmhaaGreatDoor.L1
namespace Go.Proofs.YtbccaabaplbmhaaGreatDoor.L1
open Go.RowKit Go.Proofs.YtbccaabaplbmhaaGreatDoorW.PrintWords Go.Proofs.YtbccaabaplbmhaaGreatDoor.B
set_option linter.unusedVariables false
set_option linter.unusedSimpArgs false
attribute [local go_sem] mk_cell mk_frozen
theorem strCells_bytes (s : ByteArray) : Lib.strCells s = (ofU s.data.toList).flatMap fun n => [Value.int .u8 n] := by
  unfold Lib.strCells ofU
  induction s.data.toList with
  | nil => rfl
  | cons a t ih => rw [List.map_cons, List.map_cons, List.flatMap_cons, ← ih]; rfl
theorem ofU_len (s : ByteArray) : (ofU s.data.toList).length = s.size := by unfold ofU; rw [List.length_map]; rfl
section
variable {P : Program} {ops : Array Oper} {rest : List Oper} {o : Oper} {a : Act} {Q : Exit → Act → World → Prop}
/-- append(row, string...). -/
theorem str_append {w0 W : World} (hgd : o.guard = none) (s x : Operand) (t u e : TypeId)
    (ho : o.op = .call { callee := .builtin .append, args := #[s, x], argTypes := #[t, u] })
    (ht : P.underlying t = some (.slice e)) (hu : P.underlying u = some .string) (hinfo : (P.info? e).map (fun i => (i.zero, i.size, i.bytes)) = some (some (.int .u8 0), 1, 1))
    (v : Value) (xs : List Int) (st : ByteArray) (hs : a.eval s = v) (hx : a.eval x = .string st)
    (HO : kByte.R e W w0.heap.size (fun _ => True) v xs) (HB : Below w0.heap.size w0 W) (hl : xs.length + st.size ≤ 140737488355328)
    (h : ∀ v1 w1, kByte.R e w1 w0.heap.size (fun _ => True) v1 (xs ++ ofU st.data.toList) → Below w0.heap.size w0 w1 → W.grownBy w1 v.ownBlock → wpList P ops Q rest (a.put o.dst v1) w1) :
    wpList P ops Q (o :: rest) a W := by
  obtain ⟨i0, hi, hzz⟩ := Option.map_eq_some_iff.1 hinfo
  simp only [Prod.mk.injEq] at hzz
  obtain ⟨hz0, hz1, hz2⟩ := hzz
  obtain ⟨_, inner, HW, HQ⟩ := HO
  have HW' : W.ownsRow w0.heap.size e 1 v xs.length inner := HW
  have HQ' : Reps (fun p c => c = [Value.int .u8 p]) 1 xs inner := HQ
  obtain ⟨v1, w1, hr, hown, hg, _⟩ := Lib.run_append_own_string (P := P) W w0.heap.size t u o.type e i0 ht hu hi hz0 hz1 hz2 v xs.length inner HW' st (by simp only [maxLen]; omega) hl HB.size
  refine wpList_plain hgd fun K hK => ?_
  unfold Oper.wp execOp
  simp only [ho, resolve, invoke, builtin, Sem.run_bind, Sem.run_pure, Result.andThen_ok, List.map_toArray, List.map_cons, List.map_nil, hs, hx, hr]
  rw [strCells_bytes, ← ofU_len, ← List.length_append] at hown
  exact hK _ _ (h v1 w1 ⟨fun _ _ => trivial, _, hown, reps_append HQ' (reps_flat (enc := fun n => [Value.int .u8 n]) (fun _ => rfl) _)⟩ (HB.grown hg HB.size (own_base HW')) hg)
end
theorem Ty.row {W : World} {base : Nat} {ok : Nat → Prop} {v : Value} {xs : List Int} (h : kByte.R 5 W base ok v xs) : ∀ i, v.ownBlock = some i → ∃ (cs : Array Value) (fr : Nat × Nat), W.heap[i]? = some (Obj.cells cs 5 fr) := fun i e => by
  obtain ⟨inner, ho⟩ := Kd.R_own h
  obtain ⟨cells, hc⟩ := own_typed ho i e
  exact ⟨cells, _, hc⟩
/-- What a printer's method leaves alone: all but the printer's box and rows of bytes. -/
def Fra (g : Nat) (W W' : World) : Prop := W.heap.size ≤ W'.heap.size ∧ ∀ (k : Nat) (o : Obj), k ≠ g → W.heap[k]? = some o → (∀ (cs : Array Value) (fr : Nat × Nat), o ≠ Obj.cells cs 5 fr) → W'.heap[k]? = some o
theorem Fra.refl (g : Nat) (W : World) : Fra g W W := ⟨Nat.le_refl _, fun _ _ _ h _ => h⟩
theorem Fra.trans {g : Nat} {W W1 W2 : World} (h : Fra g W W1) (h1 : Fra g W1 W2) : Fra g W W2 := ⟨Nat.le_trans h.1 h1.1, fun k o hk ho hn => h1.2 k o hk (h.2 k o hk ho hn) hn⟩
theorem Fra.below {g : Nat} {W W1 : World} (h : Below W.heap.size W W1) : Fra g W W1 := ⟨h.size, fun k o _ ho _ => blk_below ho h⟩
theorem Fra.grown {g : Nat} {W W1 : World} {row : Option Nat} (h : W.grownBy W1 row) (hr : ∀ i, row = some i → i = g ∨ ∃ (cs : Array Value) (fr : Nat × Nat), W.heap[i]? = some (Obj.cells cs 5 fr)) : Fra g W W1 :=
  ⟨h.size, fun k o hk ho hn => (h.block k (blk_lt' ho) (fun e => by
    rcases hr k e.symm with he | ⟨cs, fr, he⟩
    · exact hk he
    · rw [ho] at he; cases he; exact hn _ _ rfl)).trans ho⟩
theorem Fra.at {g : Nat} {W W1 : World} (h : Fra g W W1) {k : Nat} {cs : Array Value} {T : TypeId} {fr : Nat × Nat} (hk : k ≠ g) (ho : W.heap[k]? = some (.cells cs T fr)) (hT : T ≠ 5) : W1.heap[k]? = some (.cells cs T fr) := h.2 k _ hk ho fun _ _ e => by cases e; exact hT rfl
theorem set_grown (W : World) (g o : Nat) (v : Value) : W.grownBy (W.setCell ⟨g, o, none⟩ v) (some g) :=
  ⟨rfl, rfl, rfl, by rw [World.size_setCell]; exact Nat.le_refl _, fun k hk hne => Below.heap_setCell W ⟨g, o, none⟩ v k (fun e => hne (by rw [e]))⟩
/-- The printer at block g holds bs. -/
structure Pr (w0 : World) (g : Nat) (bs : List Int) (W : World) : Prop where
  row : ∃ v, W.heap[g]? = some (.cells #[v] 55 (0, 0)) ∧ kByte.R 5 W w0.heap.size (fun _ => True) v bs
  low : Below w0.heap.size w0 W
  ge : w0.heap.size ≤ g
theorem Pr.below {w0 W W1 : World} {g : Nat} {bs : List Int} (h : Pr w0 g bs W) (hb : Below W.heap.size W W1) : Pr w0 g bs W1 := by
  obtain ⟨⟨v, h1, h2⟩, h3, h4⟩ := h
  exact ⟨⟨v, blk_below h1 hb, Kd.R_below h2 hb⟩, bel_call h3 hb, h4⟩
/-- The box is given another row. -/
theorem Pr.set {w0 W : World} {g : Nat} {v v1 : Value} {bs : List Int} (hg : W.heap[g]? = some (.cells #[v] 55 (0, 0))) (hr : kByte.R 5 W w0.heap.size (fun _ => True) v1 bs) (hb : Below w0.heap.size w0 W) (hge : w0.heap.size ≤ g) : Pr w0 g bs (W.setCell ⟨g, 0, none⟩ v1) := by
  refine ⟨⟨v1, ?_, ?_⟩, hb.grown (set_grown W g 0 v1) hb.size (fun k hk => by cases hk; exact hge), hge⟩
  · have := blk_set hg 0 v1
    simpa only [List.setIfInBounds_toArray, List.set_cons_zero] using this
  · refine Kd.R_grown (Kd.R_mono (Kd.R_bound hr) (ok' := fun k => k ≠ g) ?_) (set_grown W g 0 v1) (fun k hk e => by cases e; exact hk rfl) |> fun h => Kd.R_mono h fun _ _ => trivial
    rintro k ⟨_, _, _, q, hq, cells, hc⟩ rfl
    rw [hg] at hc
    cases hc
    revert hq
    decide
theorem box_grown {W W1 : World} {g base : Nat} {ok : Nat → Prop} {cs : Array Value} {fr : Nat × Nat} {v : Value} {xs : List Int} (hG : W.heap[g]? = some (.cells cs 55 fr)) (hR : kByte.R 5 W base ok v xs) (hg : W.grownBy W1 v.ownBlock) : W1.heap[g]? = some (.cells cs 55 fr) :=
  (hg.block g (blk_lt' hG) (fun e => by
    obtain ⟨cs2, fr2, h⟩ := Ty.row hR g e.symm
    rw [hG] at h; cases h)).trans hG
section
variable (w : World)
set_option maxRecDepth 100000 in
set_option maxHeartbeats 2000000 in
theorem impl_word (w0 : World) (g : Nat) (bs : List Int) (st : ByteArray) (hp : Pr w0 g bs w) (hl : bs.length + st.size ≤ 100000000) :
    Calls Tryz.prog 19 #[.pointer (some ⟨g, 0, none⟩), .string st] w fun e w' => e = .returned (.tuple #[]) ∧ Pr w0 g (bs ++ (ofU st.data.toList ++ [32])) w' ∧ Fra g w w' := by
  obtain ⟨⟨v, h1, h2⟩, h3, h4⟩ := hp
  have HG := Aside0.mk h1; have HR := Aside0.mk h2; have HB := Aside0.mk h3; have HE := Aside0.mk h4; have HL := Aside0.mk hl; clear h1 h2 h3 h4 hl
  obtain ⟨A, c, rfl⟩ := Kd.R_slice HR.out
  have HOL := Aside0.mk (ofU_len st)
  go_enter Tryz.func19, Tryz.ntmps19
  obtain ⟨g1, g2⟩ := lay (Below.refl _ _) HG.out
  go_wp2_with (refine str_append (w0 := w0) rfl _ _ 22 9 5 rfl Tryz.underlying22 Tryz.underlying9 (by kernel_rfl) (.slice A bs.length c) bs st rfl rfl HR.out HB.out (by have := HL.out; omega) ?_; intro v1 w1 hr hb hg; have HSL := Aside0.mk (show (bs ++ ofU st.data.toList).length ≤ 100000000 by rw [List.length_append, HOL.out]; exact HL.out); have HAS := Aside0.mk (show bs ++ (ofU st.data.toList ++ [32]) = (bs ++ ofU st.data.toList) ++ [32] from (List.append_assoc _ _ _).symm); generalize bs ++ ofU st.data.toList = us at hr HSL HAS; have HR1 := Aside0.mk hr; have HB1 := Aside0.mk hb; have HG1 := Aside0.mk hg; clear hr hb hg g1 g2; obtain ⟨A1, c1, rfl⟩ := Kd.R_slice HR1.out; refine Hid.out ?_)
  refine Lib.hid ?_
  have HF1 := Aside0.mk (Fra.grown (g := g) HG1.out (fun i hi => .inr (Ty.row HR.out i hi)))
  have HGb := Aside0.mk (box_grown HG.out HR.out HG1.out)
  clear HG1
  go_wp2_with (refine Kd.flat_append_row kByte rfl (w0 := w0) w0.heap.size rfl _ _ 22 5 0 1 rfl Tryz.underlying22 (by kernel_rfl) (by decide) (by decide) (.slice A1 us.length c1) us [32] _ _ _ rfl rfl (Kd.R_alloc HR1.out (.cells #[.int .u8 32] 5)) (Kd.R_reads' (flat_lit (d := kByte) rfl w1 w0.heap.size 5 [32] HB1.out.size (le1 _))).2.2 (HB1.out.alloc HB1.out.size (.cells #[.int .u8 32] 5)) (Nat.le_trans HB1.out.size (World.grownBy_alloc w1 (.cells #[.int .u8 32] 5) none).size) (by have := HSL.out; simp; omega) ?_; intro v2 w2 hr hb hg _; generalize us ++ [32] = vs at hr HAS; have HR2 := Aside0.mk hr; have HB2 := Aside0.mk hb; have HG2 := Aside0.mk (box_grown (blk_box HGb.out (.cells #[.int .u8 32] 5)) (Kd.R_alloc HR1.out (.cells #[.int .u8 32] 5)) hg); have HF2 := Aside0.mk (((HF1.out.trans (Fra.below (below_alloc (Below.refl _ _) (.cells #[.int .u8 32] 5)))).trans (Fra.grown (g := g) hg (fun i hi => .inr (Ty.row (Kd.R_alloc HR1.out (.cells #[.int .u8 32] 5)) i hi))))); clear hr hb hg; obtain ⟨A2, c2, rfl⟩ := Kd.R_slice HR2.out; obtain ⟨g1, g2⟩ := lay (Below.refl _ _) HG2.out)
  refine bodyPost_end (v := .tuple #[]) (by simp [results, Tryz.results19, go_sem]) rfl ⟨rfl, ?_⟩
  rw [HAS.out]
  exact ⟨Pr.set HG2.out HR2.out HB2.out HE.out, HF2.out.trans (Fra.grown (set_grown _ _ _ _) (fun i hi => by cases hi; exact .inl rfl))⟩
end
end Go.Proofs.YtbccaabaplbmhaaGreatDoor.L1
namespace Go.Proofs.YtbccaabaplbmhaaGreatDoor.L1
open Go.RowKit Go.Proofs.YtbccaabaplbmhaaGreatDoorW.PrintWords Go.Proofs.YtbccaabaplbmhaaGreatDoor.B
set_option linter.unusedVariables false
/-- The table reads as it was laid, whatever is done from w0 on. -/
def Tab (w0 : World) : Prop := Lib.TabBelow Tryz.prog w0.heap.size w0 tabName .u64 Lib.pow10Tab
theorem impl_format (w0 w : World) (ht : Tab w0) (hb : Below w0.heap.size w0 w) (n : Int) (hn : -1000000000 ≤ n ∧ n ≤ 1000000000) :
    Calls Tryz.prog 42 #[.int .i64 n, .int .i64 10] w fun e w' => ∃ st : ByteArray, e = .returned (.string st) ∧ ofU st.data.toList = dec n ∧ Below w.heap.size w w' := by
  refine (Any.strconv_FormatInt_10 Tryz.laysM173 n (by omega) (by omega) w (ht w hb)).mono ?_
  rintro e w' ⟨rfl, k, os, rfl⟩
  exact ⟨_, rfl, (dec_itoa n).symm, Lib.below_grow _ _ (Nat.le_refl _) k os⟩
end Go.Proofs.YtbccaabaplbmhaaGreatDoor.L1
