/- EncodeCode of the reference. -/
import Derived.Test.YtmjpajaeffhdeaaL5b
namespace Go.Proofs.Ytmjpajaeffhdeaa.L1
open Go.RowKit Go.Proofs.YtmjpajaeffhdeaaW.PrintWords Go.Proofs.YtmjpajaeffhdeaaW.PrintLast Go.Proofs.Ytmjpajaeffhdeaa.B
set_option linter.unusedVariables false
set_option linter.unusedSimpArgs false
attribute [local go_sem] mk_cell mk_frozen
section
variable (w : World)
set_option maxRecDepth 100000 in
set_option maxHeartbeats 4000000 in
theorem spec_EncodeCode (v : Value) (x : Code) (hr : ReadCode w v x) : Calls Try.prog 23 #[v] w fun e w' => ∃ u, e = .returned u ∧ kByte.R 5 w' w.heap.size (fun _ => True) u x.bytes ∧ Below w.heap.size w w' := by
  have HX := Aside0.mk hr
  obtain ⟨A0, c0, A1, c1, A2, c2, rfl, r0, r1, r2⟩ := hr
  have m0 := r0.2.1; have m1 := r1.2.1; have m2 := r2.2.1
  have HR := Aside0.mk (And.intro r0 (And.intro r1 r2)); clear r0 r1 r2
  have HB0 := Aside0.mk (below_alloc (Below.refl w.heap.size w) (.cells #[.int .i64 x.regs, .int .i64 x.slots, .slice A0 x.b0.length c0, .slice A1 x.b1.length c1, .slice A2 x.b2.length c2] 32))
  have HC0 := Aside0.mk (al_new w (.cells #[.int .i64 x.regs, .int .i64 x.slots, .slice A0 x.b0.length c0, .slice A1 x.b1.length c1, .slice A2 x.b2.length c2] 32))
  go_enter Try.func23, Try.ntmps23
  go_wp2_with fail
  go_at_call 19
  refine (spec_ValidCode _ _ x (HX.out.below HB0.out)).mono ?_
  rintro e w1 ⟨rfl, hb⟩
  have HB1 := Aside0.mk (bel_call HB0.out hb); have HC1 := Aside0.mk (blk_below HC0.out hb); clear hb HB0 HC0
  cases hv : x.valid with
  | false =>
    have HV := Aside0.mk (show x.bytes = [] by unfold Code.bytes; rw [hv]; rfl); clear hv
    have HL := Aside0.mk (flat_lit (d := kByte) rfl w1 w.heap.size 5 [] HB1.out.size (by simp))
    go_wp2
    go_ret
    exact ⟨_, rfl, by rw [HV.out]; exact HL.out, below_alloc HB1.out _⟩
  | true =>
  have HV := Aside0.mk hv; clear hv
  obtain ⟨b1, b2⟩ := lay (Below.refl _ _) HC1.out
  obtain ⟨d1, d2⟩ := lay (Below.refl _ _) (blk_box HC1.out (.cells #[.int .i64 x.regs, .int .i64 x.slots, .int .i64 x.b0.length, .int .i64 x.b1.length, .int .i64 x.b2.length] 2))
  go_wp2_with fail
  clear b1 b2 d1 d2
  have HB2 := Aside0.mk (bel_box HB1.out (.cells #[.int .i64 x.regs, .int .i64 x.slots, .int .i64 x.b0.length, .int .i64 x.b1.length, .int .i64 x.b2.length] 2))
  have HNS2 := Aside0.mk (flat_lit (d := kInt) rfl w1 w.heap.size 2 x.head HB1.out.size (by unfold Code.head; simp))
  have HB3 := Aside0.mk (bel_box HB2.out (.cells #[.slice A0 x.b0.length c0, .slice A1 x.b1.length c1, .slice A2 x.b2.length c2] 30))
  have HNS3 := Aside0.mk (Kd.R_alloc HNS2.out (.cells #[.slice A0 x.b0.length c0, .slice A1 x.b1.length c1, .slice A2 x.b2.length c2] 30))
  have hS := al_new (w1.alloc (.cells #[.int .i64 x.regs, .int .i64 x.slots, .int .i64 x.b0.length, .int .i64 x.b1.length, .int .i64 x.b2.length] 2)) (.cells #[.slice A0 x.b0.length c0, .slice A1 x.b1.length c1, .slice A2 x.b2.length c2] 30); rw [al_size] at hS
  have hS2 := blk_lt hS
  have HRB := Aside0.mk (show ReadBlocks ((w1.alloc (.cells #[.int .i64 x.regs, .int .i64 x.slots, .int .i64 x.b0.length, .int .i64 x.b1.length, .int .i64 x.b2.length] 2)).alloc (.cells #[.slice A0 x.b0.length c0, .slice A1 x.b1.length c1, .slice A2 x.b2.length c2] 30)) (w1.heap.size + 1) x from ⟨hS2, fun j hj => by
    rcases (show j = 0 ∨ j = 1 ∨ j = 2 by omega) with rfl | rfl | rfl
    · exact ⟨A0, c0, blk_cell hS 0, Kd.C_below HR.out.1 HB3.out⟩
    · exact ⟨A1, c1, blk_cell hS 1, Kd.C_below HR.out.2.1 HB3.out⟩
    · exact ⟨A2, c2, blk_cell hS 2, Kd.C_below HR.out.2.2 HB3.out⟩⟩)
  clear hS hS2 HB1 HB2 HNS2
  go_at_call 62
  refine (spec_seq _ (w1.heap.size + 1) x HRB.out (Code.few_of HV.out)).mono ?_
  rintro e w4 ⟨u4, rfl, ha, hb⟩
  have HB4 := Aside0.mk (bel_call HB3.out hb); have HNS4 := Aside0.mk (Kd.R_below HNS3.out hb)
  obtain ⟨A, c, rfl, _, hC⟩ := Kd.R_reads ha
  have HALL := Aside0.mk (Kd.R_lower ha HB3.out.size); clear ha hb hC HB3 HNS3 HRB
  have hlen : x.all.length ≤ 49152 := Code.all_len HV.out
  go_wp2_with fail
  go_loopg [3, 5] (x.all.length + 1) (fun q v3 v5 wr => ∃ k, q = x.all.length + 1 - k ∧ k ≤ x.all.length ∧ v5 = .int .i64 k ∧ Aside0 (kInt.R 2 wr w.heap.size (fun _ => True) v3 (x.numsTo k)) ∧ Aside0 (Below w.heap.size w wr) ∧ Aside0 (kIns.R 81 wr w.heap.size (fun _ => True) (.slice A x.all.length c) x.all))
  case atStart => exact ⟨0, by omega, by omega, rfl, ⟨by unfold Code.numsTo; rw [List.take_zero]; exact HNS4.out⟩, HB4, HALL⟩
  case round =>
    obtain ⟨k, rfl, hk, rfl, HO, HBk, HAk⟩ := hrel
    clear HNS4 HB4 HALL
    by_cases hlt : k < x.all.length
    · obtain ⟨ad, e0, t0, t1⟩ := Kd.flat_cells (d := kIns) rfl (Kd.R_reads' HAk.out).2.2 zIns k hlt
      cases e0
      have HU := Aside0.mk (show x.numsTo (k + 1) = x.numsTo k ++ (x.all.getD k zIns).four from x.numsTo_succ k hlt)
      generalize hy : x.all.getD k zIns = y at t0 t1 HU
      have y0 := t0 _ rfl; have y1 := t1 0 _ rfl; have y2 := t1 1 _ rfl; have y3 := t1 2 _ rfl
      clear t0 t1 hy
      have HN := Aside0.mk (x.numsTo_len k)
      generalize x.numsTo k = ns at HO HU HN
      obtain ⟨A', c', rfl⟩ := Kd.R_slice HO.out
      go_wp2_with fail
      -- REGION8
      refine start_ (n := 24) (S := fun w' => w'.cell? (ad.add (k * 4)) = some (.int .i64 y.op) ∧ w'.cell? ⟨(ad.add (k * 4)).block, (ad.add (k * 4)).off + 1, none⟩ = some (.int .i64 y.a) ∧ w'.cell? ⟨(ad.add (k * 4)).block, (ad.add (k * 4)).off + 2, none⟩ = some (.int .i64 y.b) ∧ w'.cell? ⟨(ad.add (k * 4)).block, (ad.add (k * 4)).off + 3, none⟩ = some (.int .i64 y.c)) (ds := [22]) #[false, false, false, false, false, false, false, false, false, false, false, false, false, false, false, false, false, false, false, false, false, false, false, false] (by kernel_rfl) rfl rfl ⟨pw_cell_below (below_drew (Below.refl _ _)) y0, pw_cell_below (below_drew (Below.refl _ _)) y1, pw_cell_below (below_drew (Below.refl _ _)) y2, pw_cell_below (below_drew (Below.refl _ _)) y3⟩ (fun hHeld => ?_)
      refine pure_ (i := 0) (N := some 40) (v := ?_) (a' := ?_) #[true, false, false, false, false, false, false, false, false, false, false, false, false, false, false, false, false, false, false, false, false, false, false, false] rfl rfl (by kernel_rfl) (fun _ _ _ h => h) (Or.inl ⟨by rfl, ?_⟩) ?_ ?_
      rotate_left
      · intro w'
        go_simp
        with_reducible rfl
      rotate_left
      · simp only [Act.put, List.setIfInBounds_toArray, List.set_cons_zero, List.set_cons_succ, i64_w, i32_w]
        rfl
      refine pure_ (i := 1) (N := some 41) (v := ?_) (a' := ?_) #[true, true, false, false, false, false, false, false, false, false, false, false, false, false, false, false, false, false, false, false, false, false, false, false] rfl rfl (by kernel_rfl) (fun _ _ _ h => h) (Or.inl ⟨by rfl, ?_⟩) ?_ ?_
      rotate_left
      · intro w'
        go_simp
        with_reducible rfl
      rotate_left
      · simp only [Act.put, List.setIfInBounds_toArray, List.set_cons_zero, List.set_cons_succ, i64_w, i32_w]
        rfl
      refine pure_ (i := 2) (N := some 42) (v := ?_) (a' := ?_) #[true, true, true, false, false, false, false, false, false, false, false, false, false, false, false, false, false, false, false, false, false, false, false, false] rfl rfl (by kernel_rfl) (fun _ _ _ h => h) (Or.inl ⟨by rfl, ?_⟩) ?_ ?_
      rotate_left
      · intro w'
        go_simp
        with_reducible rfl
      rotate_left
      · simp only [Act.put, List.setIfInBounds_toArray, List.set_cons_zero, List.set_cons_succ, i64_w, i32_w]
        rfl
      refine pure_ (i := 3) (N := some 43) (v := ?_) (a' := ?_) #[true, true, true, true, false, false, false, false, false, false, false, false, false, false, false, false, false, false, false, false, false, false, false, false] rfl rfl (by kernel_rfl) (fun _ _ _ h => h) (Or.inl ⟨by rfl, ?_⟩) ?_ ?_
      rotate_left
      · intro w'
        go_simp
        with_reducible rfl
      rotate_left
      · simp only [Act.put, List.setIfInBounds_toArray, List.set_cons_zero, List.set_cons_succ, i64_w, i32_w]
        rfl
      refine pure_ (i := 4) (N := some 44) (v := ?_) (a' := ?_) #[true, true, true, true, true, false, false, false, false, false, false, false, false, false, false, false, false, false, false, false, false, false, false, false] rfl rfl (by kernel_rfl) (fun _ _ _ h => h) (Or.inl ⟨by rfl, ?_⟩) ?_ ?_
      rotate_left
      · intro w'
        go_simp
        with_reducible rfl
      rotate_left
      · simp only [Act.put, List.setIfInBounds_toArray, List.set_cons_zero, List.set_cons_succ, i64_w, i32_w]
        rfl
      refine pure_ (i := 6) (N := some 46) (v := ?_) (a' := ?_) #[true, true, true, true, true, false, true, false, false, false, false, false, false, false, false, false, false, false, false, false, false, false, false, false] rfl rfl (by kernel_rfl) (fun _ _ _ h => h) (Or.inl ⟨by rfl, ?_⟩) ?_ ?_
      rotate_left
      · intro w'
        go_simp
        with_reducible rfl
      rotate_left
      · simp only [Act.put, List.setIfInBounds_toArray, List.set_cons_zero, List.set_cons_succ, i64_w, i32_w]
        rfl
      refine pure_ (i := 7) (N := some 47) (v := ?_) (a' := ?_) #[true, true, true, true, true, false, true, true, false, false, false, false, false, false, false, false, false, false, false, false, false, false, false, false] rfl rfl (by kernel_rfl) (fun _ _ _ h => h) (Or.inl ⟨by rfl, ?_⟩) ?_ ?_
      rotate_left
      · intro w'
        go_simp
        with_reducible rfl
      rotate_left
      · simp only [Act.put, List.setIfInBounds_toArray, List.set_cons_zero, List.set_cons_succ, i64_w, i32_w]
        rfl
      refine pure_ (i := 8) (N := some 48) (v := ?_) (a' := ?_) #[true, true, true, true, true, false, true, true, true, false, false, false, false, false, false, false, false, false, false, false, false, false, false, false] rfl rfl (by kernel_rfl) (fun _ _ _ h => h) (Or.inl ⟨by rfl, ?_⟩) ?_ ?_
      rotate_left
      · intro w'
        go_simp
        with_reducible rfl
      rotate_left
      · simp only [Act.put, List.setIfInBounds_toArray, List.set_cons_zero, List.set_cons_succ, i64_w, i32_w]
        rfl
      refine pure_ (i := 9) (N := some 49) (v := ?_) (a' := ?_) #[true, true, true, true, true, false, true, true, true, true, false, false, false, false, false, false, false, false, false, false, false, false, false, false] rfl rfl (by kernel_rfl) (fun _ _ _ h => h) (Or.inl ⟨by rfl, ?_⟩) ?_ ?_
      rotate_left
      · intro w'
        go_simp
        with_reducible rfl
      rotate_left
      · simp only [Act.put, List.setIfInBounds_toArray, List.set_cons_zero, List.set_cons_succ, i64_w, i32_w]
        rfl
      refine pure_ (i := 11) (N := some 51) (v := ?_) (a' := ?_) #[true, true, true, true, true, false, true, true, true, true, false, true, false, false, false, false, false, false, false, false, false, false, false, false] rfl rfl (by kernel_rfl) (fun _ _ _ h => h) (Or.inl ⟨by rfl, ?_⟩) ?_ ?_
      rotate_left
      · intro w'
        go_simp
        with_reducible rfl
      rotate_left
      · simp only [Act.put, List.setIfInBounds_toArray, List.set_cons_zero, List.set_cons_succ, i64_w, i32_w]
        rfl
      refine pure_ (i := 12) (N := some 52) (v := ?_) (a' := ?_) #[true, true, true, true, true, false, true, true, true, true, false, true, true, false, false, false, false, false, false, false, false, false, false, false] rfl rfl (by kernel_rfl) (fun _ _ _ h => h) (Or.inl ⟨by rfl, ?_⟩) ?_ ?_
      rotate_left
      · intro w'
        go_simp
        with_reducible rfl
      rotate_left
      · simp only [Act.put, List.setIfInBounds_toArray, List.set_cons_zero, List.set_cons_succ, i64_w, i32_w]
        rfl
      refine pure_ (i := 13) (N := some 53) (v := ?_) (a' := ?_) #[true, true, true, true, true, false, true, true, true, true, false, true, true, true, false, false, false, false, false, false, false, false, false, false] rfl rfl (by kernel_rfl) (fun _ _ _ h => h) (Or.inl ⟨by rfl, ?_⟩) ?_ ?_
      rotate_left
      · intro w'
        go_simp
        with_reducible rfl
      rotate_left
      · simp only [Act.put, List.setIfInBounds_toArray, List.set_cons_zero, List.set_cons_succ, i64_w, i32_w]
        rfl
      refine pure_ (i := 14) (N := some 54) (v := ?_) (a' := ?_) #[true, true, true, true, true, false, true, true, true, true, false, true, true, true, true, false, false, false, false, false, false, false, false, false] rfl rfl (by kernel_rfl) (fun _ _ _ h => h) (Or.inl ⟨by rfl, ?_⟩) ?_ ?_
      rotate_left
      · intro w'
        go_simp
        with_reducible rfl
      rotate_left
      · simp only [Act.put, List.setIfInBounds_toArray, List.set_cons_zero, List.set_cons_succ, i64_w, i32_w]
        rfl
      refine pure_ (i := 16) (N := some 56) (v := ?_) (a' := ?_) #[true, true, true, true, true, false, true, true, true, true, false, true, true, true, true, false, true, false, false, false, false, false, false, false] rfl rfl (by kernel_rfl) (fun _ _ _ h => h) (Or.inl ⟨by rfl, ?_⟩) ?_ ?_
      rotate_left
      · intro w'
        go_simp
        with_reducible rfl
      rotate_left
      · simp only [Act.put, List.setIfInBounds_toArray, List.set_cons_zero, List.set_cons_succ, i64_w, i32_w]
        rfl
      refine pure_ (i := 17) (N := some 57) (v := ?_) (a' := ?_) #[true, true, true, true, true, false, true, true, true, true, false, true, true, true, true, false, true, true, false, false, false, false, false, false] rfl rfl (by kernel_rfl) (fun _ _ _ h => h) (Or.inl ⟨by rfl, ?_⟩) ?_ ?_
      rotate_left
      · intro w'
        go_simp
        with_reducible rfl
      rotate_left
      · simp only [Act.put, List.setIfInBounds_toArray, List.set_cons_zero, List.set_cons_succ, i64_w, i32_w]
        rfl
      refine pure_ (i := 18) (N := some 58) (v := ?_) (a' := ?_) #[true, true, true, true, true, false, true, true, true, true, false, true, true, true, true, false, true, true, true, false, false, false, false, false] rfl rfl (by kernel_rfl) (fun _ _ _ h => h) (Or.inl ⟨by rfl, ?_⟩) ?_ ?_
      rotate_left
      · intro w'
        go_simp
        with_reducible rfl
      rotate_left
      · simp only [Act.put, List.setIfInBounds_toArray, List.set_cons_zero, List.set_cons_succ, i64_w, i32_w]
        rfl
      refine pure_ (i := 19) (N := some 59) (v := ?_) (a' := ?_) #[true, true, true, true, true, false, true, true, true, true, false, true, true, true, true, false, true, true, true, true, false, false, false, false] rfl rfl (by kernel_rfl) (fun _ _ _ h => h) (Or.inl ⟨by rfl, ?_⟩) ?_ ?_
      rotate_left
      · intro w'
        go_simp
        with_reducible rfl
      rotate_left
      · simp only [Act.put, List.setIfInBounds_toArray, List.set_cons_zero, List.set_cons_succ, i64_w, i32_w]
        rfl
      refine take_ (i := 5) (N := some 45) (v := ?_) (a' := ?_) #[true, true, true, true, true, true, true, true, true, true, false, true, true, true, true, false, true, true, true, true, false, false, false, false] rfl rfl (by kernel_rfl) (fun _ _ _ h => h) (Or.inl ⟨by rfl, ?_⟩) hHeld ?_ ?_
      rotate_left
      · rintro w' ⟨s0, s1, s2, s3⟩
        go_simp
        with_reducible rfl
      rotate_left
      · simp only [Act.put, List.setIfInBounds_toArray, List.set_cons_zero, List.set_cons_succ, i64_w, i32_w]
        rfl
      refine take_ (i := 10) (N := some 50) (v := ?_) (a' := ?_) #[true, true, true, true, true, true, true, true, true, true, true, true, true, true, true, false, true, true, true, true, false, false, false, false] rfl rfl (by kernel_rfl) (fun _ _ _ h => h) (Or.inl ⟨by rfl, ?_⟩) hHeld ?_ ?_
      rotate_left
      · rintro w' ⟨s0, s1, s2, s3⟩
        go_simp
        with_reducible rfl
      rotate_left
      · simp only [Act.put, List.setIfInBounds_toArray, List.set_cons_zero, List.set_cons_succ, i64_w, i32_w]
        rfl
      refine take_ (i := 15) (N := some 55) (v := ?_) (a' := ?_) #[true, true, true, true, true, true, true, true, true, true, true, true, true, true, true, true, true, true, true, true, false, false, false, false] rfl rfl (by kernel_rfl) (fun _ _ _ h => h) (Or.inl ⟨by rfl, ?_⟩) hHeld ?_ ?_
      rotate_left
      · rintro w' ⟨s0, s1, s2, s3⟩
        go_simp
        with_reducible rfl
      rotate_left
      · simp only [Act.put, List.setIfInBounds_toArray, List.set_cons_zero, List.set_cons_succ, i64_w, i32_w]
        rfl
      refine take_ (i := 20) (N := some 60) (v := ?_) (a' := ?_) #[true, true, true, true, true, true, true, true, true, true, true, true, true, true, true, true, true, true, true, true, true, false, false, false] rfl rfl (by kernel_rfl) (fun _ _ _ h => h) (Or.inl ⟨by rfl, ?_⟩) hHeld ?_ ?_
      rotate_left
      · rintro w' ⟨s0, s1, s2, s3⟩
        go_simp
        with_reducible rfl
      rotate_left
      · simp only [Act.put, List.setIfInBounds_toArray, List.set_cons_zero, List.set_cons_succ, i64_w, i32_w]
        rfl
      refine one_ (i := 21) (N := some 61) #[true, true, true, true, true, true, true, true, true, true, true, true, true, true, true, true, true, true, true, true, true, true, false, false] rfl rfl (by kernel_rfl) (by decide) (fun K hK => ?_)
      refine value_ (w1 := ?_) (v := ?_) (by rfl) rfl ?_ ?_
      rotate_left 2
      · go_simp
        constructor
        · rfl
        · rfl
      refine hK.out _ _ ⟨pw_cell_below (below_alloc (Below.refl _ _) (.cells #[.int .i64 y.op, .int .i64 y.a, .int .i64 y.b, .int .i64 y.c] 2)) hHeld.1, pw_cell_below (below_alloc (Below.refl _ _) (.cells #[.int .i64 y.op, .int .i64 y.a, .int .i64 y.b, .int .i64 y.c] 2)) hHeld.2.1, pw_cell_below (below_alloc (Below.refl _ _) (.cells #[.int .i64 y.op, .int .i64 y.a, .int .i64 y.b, .int .i64 y.c] 2)) hHeld.2.2.1, pw_cell_below (below_alloc (Below.refl _ _) (.cells #[.int .i64 y.op, .int .i64 y.a, .int .i64 y.b, .int .i64 y.c] 2)) hHeld.2.2.2⟩ (fun hHeld => ?_)
      clear hK K
      refine norm_ (a' := ?_) ?_ ?_
      rotate_left
      · show Act.put _ (some 61) _ = _
        simp only [Act.put, List.setIfInBounds_toArray, List.set_cons_zero, List.set_cons_succ, i64_w, i32_w]
        rfl
      refine last_ (i := 22) (N := some 62) #[true, true, true, true, true, true, true, true, true, true, true, true, true, true, true, true, true, true, true, true, true, true, true, false] rfl rfl (by kernel_rfl) (by decide) (fun K hK => ?_)
      refine Kd.flat_append_step kInt rfl (w0 := w) w.heap.size (by rfl) rfl _ _ 61 2 0 8 rfl Try.underlying61 (by kernel_rfl) (by decide) (by decide) _ ns y.four _ _ _ rfl rfl (Kd.R_alloc (Kd.R_drew HO.out) (.cells #[.int .i64 y.op, .int .i64 y.a, .int .i64 y.b, .int .i64 y.c] 2)) (Kd.R_reads' (flat_lit (d := kInt) rfl wr.drew w.heap.size 2 y.four (below_drew HBk.out).size (by simp [Ins.four]))).2.2 (below_alloc (below_drew HBk.out) (.cells #[.int .i64 y.op, .int .i64 y.a, .int .i64 y.b, .int .i64 y.c] 2)) (below_alloc (below_drew HBk.out) (.cells #[.int .i64 y.op, .int .i64 y.a, .int .i64 y.b, .int .i64 y.c] 2)).size (by have := HN.out; show (_ + 4) * 8 ≤ _; omega) ?_
      intro v2 w2 hr2 hb2 hg2 _
      have HR2 := Aside0.mk hr2; have HB2 := Aside0.mk hb2; have HG2 := Aside0.mk hg2; clear hr2 hb2 hg2
      refine hK.out _ _ ?_
      clear hK K
      refine norm_ (a' := ?_) ?_ ?_
      rotate_left
      · show Act.put _ (some 62) _ = _
        simp only [Act.put, List.setIfInBounds_toArray, List.set_cons_zero, List.set_cons_succ, i64_w, i32_w]
        rfl
      refine pure_ (i := 23) (N := some 3) (v := ?_) (a' := ?_) #[true, true, true, true, true, true, true, true, true, true, true, true, true, true, true, true, true, true, true, true, true, true, true, true] rfl rfl (by kernel_rfl) (fun _ _ _ h => h) (Or.inl ⟨by rfl, ?_⟩) ?_ ?_
      rotate_left
      · intro w'
        go_simp
        with_reducible rfl
      rotate_left
      · simp only [Act.put, List.setIfInBounds_toArray, List.set_cons_zero, List.set_cons_succ, i64_w, i32_w]
        rfl
      refine done_ (by kernel_rfl) ?_
      -- END8
      have HA2 := Aside0.mk (Kd.R_over (Kd.R_alloc (Kd.R_drew HAk.out) (.cells #[.int .i64 y.op, .int .i64 y.a, .int .i64 y.b, .int .i64 y.c] 2)) (Kd.R_alloc (Kd.R_drew HO.out) (.cells #[.int .i64 y.op, .int .i64 y.a, .int .i64 y.b, .int .i64 y.c] 2)) (by intro q hq; have hq' : q ∈ [81] := hq; simp only [List.mem_singleton] at hq'; subst hq'; decide) HG2.out)
      go_wp2
      go_roundg (x.all.length + 1 - (k + 1))
      case measure => omega
      case rel => exact ⟨k + 1, rfl, hlt, by go_num, ⟨by rw [HU.out]; exact HR2.out⟩, HB2, HA2⟩
    · have hkl : k = x.all.length := by omega
      subst hkl
      have HN0 := Aside0.mk (show x.numsTo x.all.length = x.numbers from x.numsTo_all)
      have HBD := Aside0.mk (Code.numbers_bd HV.out)
      have HLN := Aside0.mk (show x.numbers.length ≤ 196613 by rw [← HN0.out]; have := x.numsTo_len x.all.length; omega)
      have HNS := Aside0.mk (show kInt.R 2 wr w.heap.size (fun _ => True) _ x.numbers from HN0.out ▸ HO.out); clear HO
      have HBY := Aside0.mk (show x.bytes = bytesTo x.numbers x.numbers.length by unfold Code.bytes bytesTo; rw [HV.out, List.take_length]; rfl)
      clear hk hlen hlt
      generalize x.numbers = ns at HBD HLN HNS HBY
      obtain ⟨A', c', rfl⟩ := Kd.R_slice HNS.out
      have HL := Aside0.mk (flat_lit (d := kByte) rfl wr w.heap.size 5 [] HBk.out.size (by simp))
      have HNS1 := Aside0.mk (Kd.R_alloc HNS.out (.cells #[] 5))
      have HB1 := Aside0.mk (bel_box HBk.out (.cells #[] 5))
      go_wp2_with fail
      clear HNS HBk HAk HN0
      have hnl := HLN.out
      go_loopg [6, 7] (ns.length + 1) (fun q v6 v7 wk => ∃ k, q = ns.length + 1 - k ∧ k ≤ ns.length ∧ v7 = .int .i64 k ∧ Aside0 (kByte.R 5 wk w.heap.size (fun _ => True) v6 (bytesTo ns k)) ∧ Aside0 (Below w.heap.size w wk) ∧ Aside0 (kInt.R 2 wk w.heap.size (fun _ => True) (.slice A' ns.length c') ns))
      case atStart => exact ⟨0, by omega, by omega, rfl, HL, HB1, HNS1⟩
      case round =>
        obtain ⟨k, rfl, hk, rfl, HO, HBk, HNk⟩ := hrel
        clear HL HB1 HNS1
        by_cases hlt : k < ns.length
        · obtain ⟨ad, e0, t0, t1⟩ := Kd.flat_cells (d := kInt) rfl (Kd.R_reads' HNk.out).2.2 0 k hlt
          cases e0
          have HU := Aside0.mk (bytesTo_succ ns k hlt)
          have HBN := Aside0.mk (HBD.out (ns.getD k 0) (by rw [List.getD_eq_getElem?_getD, List.getElem?_eq_getElem hlt]; exact List.getElem_mem hlt))
          have HBL := Aside0.mk (bytesTo_len HBD.out k)
          generalize hy : ns.getD k 0 = y at t0 HU HBN
          have z3 := t0 _ rfl; simp only [Nat.mul_one] at z3
          clear t0 t1 hy
          generalize bytesTo ns k = bs at HO HU HBL
          obtain ⟨A2', c2', rfl⟩ := Kd.R_slice HO.out
          go_wp2_with fail
          clear z3
          go_at_call 63
          refine (spec_var _ y HBN.out).mono ?_
          rintro e w5 ⟨u5, rfl, hr5, hb⟩
          obtain ⟨A5, m5, rfl, _, hc5⟩ := Kd.R_reads hr5
          have HO5 := Aside0.mk (Kd.R_below HO.out hb); have HN5 := Aside0.mk (Kd.R_below HNk.out hb); have HB5 := Aside0.mk (bel_call HBk.out hb); have HC5 := Aside0.mk hc5; clear hr5 hb hc5
          go_wp2_with (refine Kd.flat_append_row kByte rfl (w0 := w) w.heap.size rfl _ _ 36 5 0 1 rfl Try.underlying36 (by kernel_rfl) (by decide) (by decide) _ bs (varOf y) _ _ _ rfl rfl HO5.out HC5.out HB5.out HB5.out.size (by have := HBL.out; have := HLN.out; have := varOf_len HBN.out; omega) ?_; intro v2 w2 hr2 hb2 hg2 _; have HR2 := Aside0.mk hr2; have HB2 := Aside0.mk hb2; have HG2 := Aside0.mk hg2; clear hr2 hb2 hg2)
          have HN2 := Aside0.mk (Kd.R_over HN5.out HO5.out (by intro q hq; have hq' : q ∈ [2] := hq; simp only [List.mem_singleton] at hq'; subst hq'; decide) HG2.out)
          go_roundg (ns.length + 1 - (k + 1))
          case measure => omega
          case rel => exact ⟨k + 1, rfl, hlt, by go_num, ⟨by rw [HU.out]; exact HR2.out⟩, HB2, HN2⟩
        · have hkl : k = ns.length := by omega
          subst hkl
          go_wp2
          go_ret
          exact ⟨_, rfl, by rw [HBY.out]; exact HO.out, HBk.out⟩
end
end Go.Proofs.Ytmjpajaeffhdeaa.L1
