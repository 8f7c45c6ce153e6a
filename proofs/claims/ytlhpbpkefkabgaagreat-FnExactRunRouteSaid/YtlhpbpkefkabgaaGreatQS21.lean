/- The closures of the program's machine that write: a register, a rule that broke, a slot. A slot saved; the table of operations. -/
import Derived.Test.YtlhpbpkefkabgaaGreatQS20
import Derived.Laws.EntriesVeiled
namespace Go.Proofs.YtlhpbpkefkabgaaGreat.L1
open Go.RowKit Go.Proofs.YtlhpbpkefkabgaaGreatW.PrintWords Go.Proofs.YtlhpbpkefkabgaaGreat.B
set_option linter.unusedVariables false
set_option linter.unusedSimpArgs false
attribute [local go_sem] mk_cell mk_frozen
/-- Only blocks of S, and new ones, are written. -/
structure Tch (S : Nat → Prop) (W W' : World) : Prop where
  size : W.heap.size ≤ W'.heap.size
  same : ∀ k, k < W.heap.size → ¬S k → W'.heap[k]? = W.heap[k]?
  below : ∀ w0 : World, (∀ k, S k → w0.heap.size ≤ k) → Below w0.heap.size w0 W → Below w0.heap.size w0 W'
theorem Tch.refl (S : Nat → Prop) (W : World) : Tch S W W := ⟨Nat.le_refl _, fun _ _ _ => rfl, fun _ _ h => h⟩
theorem Tch.trans {S : Nat → Prop} {W W1 W2 : World} (h : Tch S W W1) (h' : Tch S W1 W2) : Tch S W W2 :=
  ⟨Nat.le_trans h.size h'.size, fun k hk hs => (h'.same k (Nat.lt_of_lt_of_le hk h.size) hs).trans (h.same k hk hs), fun w0 h0 hb => h'.below w0 h0 (h.below w0 h0 hb)⟩
theorem Tch.of_below {S : Nat → Prop} {W W1 : World} (h : Below W.heap.size W W1) : Tch S W W1 := ⟨h.size, fun k hk _ => h.block k hk, fun w0 _ hb => bC hb h⟩
theorem Tch.mono {S S' : Nat → Prop} {W W1 : World} (h : Tch S W W1) (hs : ∀ k, S k → S' k) : Tch S' W W1 := ⟨h.size, fun k hk hn => h.same k hk fun hk' => hn (hs k hk'), fun w0 h0 hb => h.below w0 (fun k hk => h0 k (hs k hk)) hb⟩
theorem Tch.set {S : Nat → Prop} {W : World} {b o : Nat} {v : Value} (h : S b) : Tch S W (W.setCell ⟨b, o, none⟩ v) :=
  ⟨Nat.le_of_eq (World.size_setCell _ _ _).symm, fun k _ hn => Below.heap_setCell W ⟨b, o, none⟩ v k (fun e => hn (by rw [e]; exact h)), fun w0 h0 hb => bel_set hb (h0 b h) v⟩
theorem Tch.grown {S : Nat → Prop} {W W1 : World} {b : Nat} (hg : W.grownBy W1 (some b)) (h : S b) (hz : W.heap.size ≤ W1.heap.size) : Tch S W W1 :=
  ⟨hz, fun k hk hn => hg.block k hk (fun e => hn (by injection e with e; rw [e]; exact h)), fun w0 h0 hb => pw_below_grown hb (some b) hb.size hg (fun k hk => by cases hk; exact h0 b h)⟩
/-- A result that lies in a block known whole. -/
theorem results_cell {P : Program} {fn : Func} {tmps : Array Value} {w : World} {a : Nat} {ty T : TypeId} {g : Nat} {cs : Array Value} {d : TypeDesc} (hr : fn.results = #[.cell a ty]) (hp : tmps.getD a undef = .pointer (some ⟨g, 0, none⟩)) (hg : w.heap[g]? = some (.cells cs T (0, 0)))
    (hu : P.underlying ty = some d) (hd : (match d with | .struct _ | .array _ _ => true | _ => false) = true) (hi : (P.info? ty).map (·.size) = some cs.size) : (results fn tmps).run P w = .ok (.agg cs) w := by
  have h := run_loadVar_row w g T ty cs (0, 0) d hg hu hd hi
  have hp' : tmps[a]?.getD undef = Value.pointer (some ⟨g, 0, none⟩) := by simpa using hp
  simp [results, hr, hp', asAddr, Sem.run_bind, h]
/-- A whole block is written. -/
theorem wpList_putAll {P : Program} {ops : Array Oper} {rest : List Oper} {o : Oper} {a : Act} {Q : Exit → Act → World → Prop} {W : World} (hN : o.dst = none) (hgd : o.guard = none) (t : TypeId) (p x : Operand) (ho : o.op = .store t p x) {g : Nat} {cs : Array Value} {T : TypeId} (vs : List Value) (haddr : a.eval p = .pointer (some ⟨g, 0, none⟩)) (hx : (a.eval x).cells.toList = vs)
    (ht : (P.info? t).map (·.size) = some vs.length) (h1 : ∀ q ∈ vs, q.oneCell' = true) (hg : W.heap[g]? = some (.cells cs T (0, 0))) (hl : vs.length = cs.size) (h : ∀ w1, w1.heap[g]? = some (.cells vs.toArray T (0, 0)) → Tch (fun k => k = g) W w1 → w1.heap.size = W.heap.size → wpList P ops Q rest a w1) : wpList P ops Q (o :: rest) a W := by
  obtain ⟨cur, h2, h3, h4⟩ := setCells_row vs 0 W cs hg (by omega)
  obtain ⟨s1, s2, s3, s4⟩ := setCells_same g vs 0 W
  have h5 : cur = vs.toArray := by
    apply Array.toList_inj.1
    rw [h4, List.take_zero, List.nil_append, List.drop_of_length_le (by simp; omega), List.append_nil]
  have hgr : W.grownBy (W.setCells g 0 vs) (some g) := ⟨s1, s2, s3, Nat.le_of_eq s4.symm, fun k _ hk => setCells_far vs 0 k (fun e => hk (by rw [e]))⟩
  have hrun : (Instr.storeAt t (.pointer (some ⟨g, 0, none⟩)) (a.eval x)).run P W = .ok () (W.setCells g 0 vs) := run_store_run t _ vs hg hx ht (by omega) h1
  refine wpList_plain hgd fun K hK => ?_
  unfold Oper.wp execOp
  simp only [ho, haddr, Sem.run_bind, Sem.run_pure, Result.andThen_ok, hrun]
  show K (a.put o.dst undef) _
  rw [hN]
  exact hK a _ (h _ (by rw [h2, h5]) (Tch.grown hgr rfl hgr.size) s4)
section
variable (w : World)
set_option maxRecDepth 100000 in
set_option maxHeartbeats 4000000 in
theorem impl_set (i : Nat) (caps : Array Value) (eg : ∀ args w, (callFunc i args).run Tryz.prog w = .ok (.enter i args) w) (w0 : World) (o b c v : Int) (db rb ga cR ka : Nat) (xs : List Int) (hd : w.cell? ⟨db, 0, none⟩ = some (.func (.func i) #[] caps)) (hr : w.cell? ⟨rb, 0, none⟩ = some (.slice (some ⟨ga, 0, none⟩) xs.length cR))
    (hA : kInt.R 2 w w0.heap.size (fun _ => True) (.slice (some ⟨ga, 0, none⟩) xs.length cR) xs) (hB : Below w0.heap.size w0 w) (hga : w0.heap.size ≤ ga) (hk : ka < xs.length) (hv : ∀ W : World, Below w.heap.size w W → Calls Tryz.prog i (#[.agg #[.int .i64 o, .int .i64 (ka : Int), .int .i64 b, .int .i64 c]] ++ caps) W fun e w' => e = .returned (.int .i64 v) ∧ Below W.heap.size W w') :
    Calls Tryz.prog 126 #[.agg #[.int .i64 o, .int .i64 (ka : Int), .int .i64 b, .int .i64 c], .pointer (some ⟨db, 0, none⟩), .pointer (some ⟨rb, 0, none⟩)] w fun e w' => e = .returned (.int .i64 (-1)) ∧ kInt.R 2 w' w0.heap.size (fun _ => True) (.slice (some ⟨ga, 0, none⟩) xs.length cR) (xs.set ka v) ∧ Below w0.heap.size w0 w' ∧ Tch (fun k => k = ga) w w' := by
  have HV := sA hv; have HA := sA hA; have HD := sA hd; have HR := sA hr; have HBB := sA hB
  have hb : (ka : Int) < (xs.length : Int) := by omega
  have HB0 := sA (bA (Below.refl w.heap.size w) (.cells #[.int .i64 o, .int .i64 (ka : Int), .int .i64 b, .int .i64 c] 99))
  have h := al_new w (.cells #[.int .i64 o, .int .i64 (ka : Int), .int .i64 b, .int .i64 c] 99)
  have HKX0 := sA h
  clear hv hA hd hr hB h
  go_enter Tryz.func126, Tryz.ntmps126
  go_wp2_with fail
  refine Grow.wp_region_tail 7 (by kernel_rfl) (by kernel_rfl) ?_
  dsimp only [List.take, List.drop]
  repeat ((first | (refine Grow.lexP_do _ (by rfl) (by rfl) (by intro W hj; obtain ⟨kx1, kx2⟩ := lay hj.out HKX0.out; have cd := pC (bC HB0.out hj.out) HD.out; have cr := pC (bC HB0.out hj.out) HR.out; go_simp; first | exact Grow.UponB.val | exact Grow.UponB.call (HV.out W (bC HB0.out hj.out))) ?_)); refine Grow.lexP_norm (fun K hK => ?_); go_simp; refine hK _ ?_; clear hK K)
  refine Grow.lexP_nil (fun W hj => ?_)
  have HB1 := sA (bC HB0.out hj.out); clear hj eg
  refine Kd.flat_store kInt rfl rfl rfl 2 _ _ rfl ka v rfl (by simp) rfl (by kernel_rfl) (Kd.R_below HA.out HB1.out) hk (bC HBB.out HB1.out) ?_
  intro w3 hr3 hb3 hg3
  have HR3 := sA hr3; have HB3 := sA hb3; have HG3 := sA hg3; clear hr3 hb3 hg3
  go_wp2
  go_ret
  exact ⟨rfl, HR3.out, HB3.out, (Tch.of_below HB1.out).trans (Tch.grown HG3.out rfl HG3.out.size)⟩
set_option maxRecDepth 100000 in
set_option maxHeartbeats 4000000 in
theorem impl_check1 (o b c : Int) (rb fb : Nat) (A : Addr) (cR : Nat) (xs : List Int) (hr : w.cell? ⟨rb, 0, none⟩ = some (.slice (some A) xs.length cR)) (hA : kInt.C w (some A) xs.length xs) (ka : Nat) (hk0 : ka < xs.length) (hz : atI xs ka ≠ 0) : Calls Tryz.prog 146 #[.agg #[.int .i64 o, .int .i64 (ka : Int), .int .i64 b, .int .i64 c], .pointer (some ⟨rb, 0, none⟩), .pointer (some ⟨fb, 0, none⟩)] w fun e w' => e = .returned (.int .i64 (-1)) ∧ Below w.heap.size w w' := by
  obtain ⟨ad, e0, z0⟩ := int_at hA hk0; injection e0 with e0; subst e0
  generalize atI xs ka = y0 at *
  have HB0 := sA (bA (Below.refl w.heap.size w) (.cells #[.int .i64 o, .int .i64 (ka : Int), .int .i64 b, .int .i64 c] 99))
  have cR := pC HB0.out hr; have c0 := pC HB0.out z0
  have hb : (ka : Int) < (xs.length : Int) := by omega
  clear hr z0 hA
  have p0 : (y0 == 0) = false := beq_eq_false_iff_ne.2 hz; have p1 : decide (y0 = 0) = false := decide_eq_false hz
  clear hz
  go_enter Tryz.func146, Tryz.ntmps146
  go_wp2
  go_ret
  exact ⟨rfl, HB0.out⟩
set_option maxRecDepth 100000 in
set_option maxHeartbeats 4000000 in
theorem impl_check0 (o b c : Int) (rb fb g : Nat) (A : Addr) (cR : Nat) (xs : List Int) (hr : w.cell? ⟨rb, 0, none⟩ = some (.slice (some A) xs.length cR)) (hA : kInt.C w (some A) xs.length xs) (ka : Nat) (hk0 : ka < xs.length) (hz : atI xs ka = 0) (hf : w.cell? ⟨fb, 0, none⟩ = some (.pointer (some ⟨g, 0, none⟩))) (FC : Array Value) (hG : w.heap[g]? = some (.cells FC 125 (0, 0))) (hFC : FC.size = 19) :
    Calls Tryz.prog 146 #[.agg #[.int .i64 o, .int .i64 (ka : Int), .int .i64 b, .int .i64 c], .pointer (some ⟨rb, 0, none⟩), .pointer (some ⟨fb, 0, none⟩)] w fun e w' => e = .returned (.int .i64 16384) ∧ w'.heap[g]? = some (.cells (FC.setIfInBounds 18 (.int .i64 b)) 125 (0, 0)) ∧ Tch (fun k => k = g) w w' := by
  obtain ⟨ad, e0, z0⟩ := int_at hA hk0; injection e0 with e0; subst e0
  generalize atI xs ka = y0 at *
  have HB0 := sA (bA (Below.refl w.heap.size w) (.cells #[.int .i64 o, .int .i64 (ka : Int), .int .i64 b, .int .i64 c] 99))
  have hG0 := blk_box hG (.cells #[.int .i64 o, .int .i64 (ka : Int), .int .i64 b, .int .i64 c] 99)
  have cR := pC HB0.out hr; have c0 := pC HB0.out z0; have cf := pC HB0.out hf
  have c18 : (w.alloc (.cells #[.int .i64 o, .int .i64 (ka : Int), .int .i64 b, .int .i64 c] 99)).cell? ⟨g, 18, none⟩ = some FC[18] := by rw [blk_cell hG0 18]; exact Array.getElem?_eq_getElem (by omega)
  have g2 := blk_frozen hG0 18
  have HG0 := sA hG0
  have hb : (ka : Int) < (xs.length : Int) := by omega
  clear hr z0 hA hf hG hG0
  have p0 : (y0 == 0) = true := beq_iff_eq.2 hz; have p1 : decide (y0 = 0) = true := decide_eq_true hz
  clear hz
  go_enter Tryz.func146, Tryz.ntmps146
  go_wp2
  go_ret
  exact ⟨rfl, blk_set HG0.out 18 (.int .i64 b), (Tch.of_below HB0.out).trans (Tch.set rfl)⟩
end
end Go.Proofs.YtlhpbpkefkabgaaGreat.L1
namespace Go.Proofs.YtlhpbpkefkabgaaGreat.L1
open Go.RowKit Go.Proofs.YtlhpbpkefkabgaaGreatW.PrintWords Go.Proofs.YtlhpbpkefkabgaaGreat.B
set_option linter.unusedVariables false
set_option linter.unusedSimpArgs false
attribute [local go_sem] mk_cell mk_frozen
section
variable (w : World)
set_option maxRecDepth 100000 in
set_option maxHeartbeats 4000000 in
theorem impl_save0 (o a b c : Int) (rb : Nat) (fb g : Nat) (fp fn ft fd fl : Int) (k0 k1 k2 k3 k4 : Value) (B0 : Option Addr) (d0 : Nat) (B1 : Option Addr) (d1 : Nat) (B2 : Option Addr) (d2 : Nat) (x : Inst) (fv fq : Int) (s0 s1 s2 : Value) (br : Int) (hf : w.cell? ⟨fb, 0, none⟩ = some (.pointer (some ⟨g, 0, none⟩))) (hG : w.heap[g]? = some (.cells #[.int .i64 fp, .int .i64 fn, .int .i64 ft, .int .i64 fd, .int .i64 fl, k0, k1, k2, k3, k4, .slice B0 x.vs.length d0, .slice B1 x.qs.length d1, .slice B2 x.rs.length d2, .int .i64 fv, .int .i64 fq, s0, s1, s2, .int .i64 br] 125 (0, 0))) (hq : fq < 0) : Calls Tryz.prog 147 #[.agg #[.int .i64 o, .int .i64 a, .int .i64 b, .int .i64 c], .pointer (some ⟨fb, 0, none⟩), .pointer (some ⟨rb, 0, none⟩)] w fun e w' => e = .returned (.int .i64 (-1)) ∧ Below w.heap.size w w' := by
  have p0 : decide (0 ≤ fq) = false := decide_eq_false (by omega)
  clear hq
  obtain ⟨HB0, HKX0, HZ0⟩ := opens1 w (.cells #[.int .i64 o, .int .i64 a, .int .i64 b, .int .i64 c] 99)
  have ZF := sA hf; have HKF0 := sA (blk_box hG (.cells #[.int .i64 o, .int .i64 a, .int .i64 b, .int .i64 c] 99)); clear hf hG
  go_enter Tryz.func147, Tryz.ntmps147
  obtain ⟨kx1, kx2⟩ := lay0 HKX0.out
  obtain ⟨kf1, kf2⟩ := lay0 HKF0.out
  have cZF := pC HB0.out ZF.out
  go_wp2
  go_ret
  exact ⟨rfl, HB0.out⟩
set_option maxRecDepth 100000 in
set_option maxHeartbeats 4000000 in
theorem impl_save1 (w0 : World) (o a c : Int) (rb gs cs : Nat) (sl : List Int) (fb g : Nat) (fp fn ft fd fl : Int) (k0 k1 k2 k3 k4 : Value) (B0 : Option Addr) (d0 : Nat) (B1 : Option Addr) (d1 : Nat) (B2 : Option Addr) (d2 : Nat) (x : Inst) (fv fq : Int) (s0 s1 : Value) (br : Int) (hf : w.cell? ⟨fb, 0, none⟩ = some (.pointer (some ⟨g, 0, none⟩))) (hG : w.heap[g]? = some (.cells #[.int .i64 fp, .int .i64 fn, .int .i64 ft, .int .i64 fd, .int .i64 fl, k0, k1, k2, k3, k4, .slice B0 x.vs.length d0, .slice B1 x.qs.length d1, .slice B2 x.rs.length d2, .int .i64 fv, .int .i64 fq, s0, s1, (.slice (some ⟨gs, 0, none⟩) sl.length cs), .int .i64 br] 125 (0, 0))) (A : Addr) (cR : Nat) (xs : List Int) (hr : w.cell? ⟨rb, 0, none⟩ = some (.slice (some A) xs.length cR)) (hA : kInt.C w (some A) xs.length xs) (kb : Nat) (hk0 : kb < xs.length) (hq : 0 ≤ fq) (hS : kInt.R 2 w w0.heap.size (fun _ => True) (.slice (some ⟨gs, 0, none⟩) sl.length cs) sl) (hB : Below w0.heap.size w0 w) (ks : Nat) (hks : a * x.qs.length + fq = ks) (hks0 : ks < sl.length) (hbq : 0 ≤ a * x.qs.length) (hsl : sl.length ≤ 2000000) (hx : x.qs.length ≤ 1048576) :
    Calls Tryz.prog 147 #[.agg #[.int .i64 o, .int .i64 a, .int .i64 (kb : Int), .int .i64 c], .pointer (some ⟨fb, 0, none⟩), .pointer (some ⟨rb, 0, none⟩)] w fun e w' => e = .returned (.int .i64 (-1)) ∧ kInt.R 2 w' w0.heap.size (fun _ => True) (.slice (some ⟨gs, 0, none⟩) sl.length cs) (sl.set ks (atI xs kb)) ∧ Below w0.heap.size w0 w' ∧ Tch (fun k => k = gs) w w' := by
  have p0 : decide (0 ≤ fq) = true := decide_eq_true hq
  have q0 : IntKind.i64.wrap (a * (x.qs.length : Int)) = a * (x.qs.length : Int) := IntWalk.i64_in _ (by omega)
  have q1 : IntKind.i64.wrap (a * (x.qs.length : Int) + fq) = (ks : Int) := by rw [hks]; exact IntWalk.i64_in _ (by omega)
  obtain ⟨ad, e0, z0⟩ := int_at hA hk0; injection e0 with e0; subst e0
  generalize atI xs kb = y0 at *
  have ZR := sA hr; have Z0 := sA z0; have HS := sA hS; have HBB := sA hB
  have hb : (kb : Int) < (xs.length : Int) := by omega
  have hsb : (ks : Int) < (sl.length : Int) := by omega
  clear hr z0 hA hS hB hks hbq hsl hq
  obtain ⟨HB0, HKX0, HZ0⟩ := opens1 w (.cells #[.int .i64 o, .int .i64 a, .int .i64 (kb : Int), .int .i64 c] 99)
  have ZF := sA hf; have HKF0 := sA (blk_box hG (.cells #[.int .i64 o, .int .i64 a, .int .i64 (kb : Int), .int .i64 c] 99)); clear hf hG
  go_enter Tryz.func147, Tryz.ntmps147
  obtain ⟨kx1, kx2⟩ := lay0 HKX0.out
  obtain ⟨kf1, kf2⟩ := lay0 HKF0.out
  have cZF := pC HB0.out ZF.out
  have cZR := pC HB0.out ZR.out
  have cZ0 := pC HB0.out Z0.out
  go_wp2_with fail
  clear kx1 kx2 kf1 kf2 cZF cZR cZ0
  refine Grow.wp_region_tail 23 (by kernel_rfl) (by kernel_rfl) ?_
  dsimp only [List.take, List.drop]
  repeat ((first | (refine Grow.lexP_do _ (by rfl) (by rfl) (by intro W hj; obtain ⟨kx1, kx2⟩ := lay hj.out HKX0.out; obtain ⟨kf1, kf2⟩ := lay hj.out HKF0.out; have cZF := pC (bC HB0.out hj.out) ZF.out; have cZR := pC (bC HB0.out hj.out) ZR.out; have cZ0 := pC (bC HB0.out hj.out) Z0.out; go_simp; first | exact Grow.UponB.val | (have cc := impl_requests W B0 B1 B2 x.vs.length x.qs.length x.rs.length d0 d1 d2 hx; with_reducible exact Grow.UponB.call cc)) ?_)); refine Grow.lexP_norm (fun K hK => ?_); go_simp; refine hK _ ?_; clear hK K)
  refine Grow.lexP_nil (fun w1 hj => ?_)
  have hb := hj.out; clear hj
  have HB1 := sA (bC HB0.out hb); have HKX1 := sA (bB HKX0.out hb); have HKF1 := sA (bB HKF0.out hb); clear hb
  refine Kd.flat_store kInt rfl rfl rfl 2 _ _ rfl ks y0 rfl (by simp) rfl (by kernel_rfl) (Kd.R_below HS.out HB1.out) hks0 (bC HBB.out HB1.out) ?_
  intro w3 hr3 hb3 hg3
  have HR3 := sA hr3; have HB3 := sA hb3; have HG3 := sA hg3; clear hr3 hb3 hg3
  go_wp2
  go_ret
  exact ⟨rfl, HR3.out, HB3.out, (Tch.of_below HB1.out).trans (Tch.grown HG3.out rfl HG3.out.size)⟩
theorem impl_mkset (fn : Fn) (ca : Array Value) (rb : Nat) : Calls Tryz.prog 125 #[.func fn #[] ca, .pointer (some ⟨rb, 0, none⟩)] w fun e w' => ∃ k, e = .returned (.func (.func 126) #[] #[.pointer (some ⟨k, 0, none⟩), .pointer (some ⟨rb, 0, none⟩)]) ∧ w'.heap[k]? = some (.cells #[.func fn #[] ca] 149 (0, 0)) ∧ Below w.heap.size w w' := by
  go_enter Tryz.func125, Tryz.ntmps125
  go_wp2
  go_ret
  exact ⟨_, rfl, al_new _ _, bA (Below.refl _ _) _⟩
/-- What a register is set to: the closures. -/
def doL (fb rb : Nat) : List Value := [.func (.func 127) #[] #[], .func (.func 128) #[] #[.pointer (some ⟨rb, 0, none⟩)], .func (.func 129) #[] #[.pointer (some ⟨rb, 0, none⟩)], .func (.func 130) #[] #[.pointer (some ⟨rb, 0, none⟩)], .func (.func 131) #[] #[.pointer (some ⟨rb, 0, none⟩)], .func (.func 133) #[] #[.pointer (some ⟨rb, 0, none⟩)], .func (.func 134) #[] #[.pointer (some ⟨rb, 0, none⟩)], .func (.func 135) #[] #[.pointer (some ⟨rb, 0, none⟩)], .func (.func 136) #[] #[.pointer (some ⟨rb, 0, none⟩)], .func (.func 137) #[] #[.pointer (some ⟨rb, 0, none⟩)], .func (.func 138) #[] #[.pointer (some ⟨rb, 0, none⟩)], .func (.func 139) #[] #[.pointer (some ⟨rb, 0, none⟩)], .func (.func 140) #[] #[.pointer (some ⟨fb, 0, none⟩)], .func (.func 141) #[] #[.pointer (some ⟨fb, 0, none⟩)], .func (.func 142) #[] #[.pointer (some ⟨fb, 0, none⟩)]]
/-- The table of operations. -/
def opsA (fb rb : Nat) (ks : List Nat) : Array Value := #[.nilFunc, .func (.func 126) #[] #[.pointer (some ⟨ks.getD 0 0, 0, none⟩), .pointer (some ⟨rb, 0, none⟩)], .func (.func 126) #[] #[.pointer (some ⟨ks.getD 1 0, 0, none⟩), .pointer (some ⟨rb, 0, none⟩)], .func (.func 126) #[] #[.pointer (some ⟨ks.getD 2 0, 0, none⟩), .pointer (some ⟨rb, 0, none⟩)], .func (.func 126) #[] #[.pointer (some ⟨ks.getD 3 0, 0, none⟩), .pointer (some ⟨rb, 0, none⟩)], .func (.func 126) #[] #[.pointer (some ⟨ks.getD 4 0, 0, none⟩), .pointer (some ⟨rb, 0, none⟩)], .func (.func 126) #[] #[.pointer (some ⟨ks.getD 5 0, 0, none⟩), .pointer (some ⟨rb, 0, none⟩)], .func (.func 126) #[] #[.pointer (some ⟨ks.getD 6 0, 0, none⟩), .pointer (some ⟨rb, 0, none⟩)], .func (.func 126) #[] #[.pointer (some ⟨ks.getD 7 0, 0, none⟩), .pointer (some ⟨rb, 0, none⟩)], .func (.func 126) #[] #[.pointer (some ⟨ks.getD 8 0, 0, none⟩), .pointer (some ⟨rb, 0, none⟩)], .func (.func 126) #[] #[.pointer (some ⟨ks.getD 9 0, 0, none⟩), .pointer (some ⟨rb, 0, none⟩)], .func (.func 126) #[] #[.pointer (some ⟨ks.getD 10 0, 0, none⟩), .pointer (some ⟨rb, 0, none⟩)], .func (.func 126) #[] #[.pointer (some ⟨ks.getD 11 0, 0, none⟩), .pointer (some ⟨rb, 0, none⟩)], .func (.func 126) #[] #[.pointer (some ⟨ks.getD 12 0, 0, none⟩), .pointer (some ⟨rb, 0, none⟩)], .func (.func 126) #[] #[.pointer (some ⟨ks.getD 13 0, 0, none⟩), .pointer (some ⟨rb, 0, none⟩)], .func (.func 143) #[] #[.pointer (some ⟨rb, 0, none⟩)], .func (.func 144) #[] #[.pointer (some ⟨rb, 0, none⟩)], .func (.func 145) #[] #[], .func (.func 146) #[] #[.pointer (some ⟨rb, 0, none⟩), .pointer (some ⟨fb, 0, none⟩)], .func (.func 147) #[] #[.pointer (some ⟨fb, 0, none⟩), .pointer (some ⟨rb, 0, none⟩)], .func (.func 126) #[] #[.pointer (some ⟨ks.getD 14 0, 0, none⟩), .pointer (some ⟨rb, 0, none⟩)]]
set_option maxRecDepth 100000 in
set_option maxHeartbeats 8000000 in
theorem impl_operations (g ga len cR : Nat) (hs : w.cell? ⟨g, 16, none⟩ = some (.slice (some ⟨ga, 0, none⟩) len cR)) : Calls Tryz.prog 107 #[.pointer (some ⟨g, 0, none⟩)] w fun e w' => ∃ fb rb ks, e = .returned (.agg (opsA fb rb ks)) ∧ Below w.heap.size w w' ∧ w'.heap[fb]? = some (.cells #[.pointer (some ⟨g, 0, none⟩)] 118 (0, 0)) ∧ w'.heap[rb]? = some (.cells #[.slice (some ⟨ga, 0, none⟩) len cR] 30 (0, 0)) ∧
    ∀ j, j < 15 → w'.heap[ks.getD j 0]? = some (.cells #[(doL fb rb).getD j undef] 149 (0, 0)) := by
  obtain ⟨HB0, HKF0, HKO0, HZ0⟩ := opens2 w (.cells #[.pointer (some ⟨g, 0, none⟩)] 118) (.cells #[.nilFunc, .nilFunc, .nilFunc, .nilFunc, .nilFunc, .nilFunc, .nilFunc, .nilFunc, .nilFunc, .nilFunc, .nilFunc, .nilFunc, .nilFunc, .nilFunc, .nilFunc, .nilFunc, .nilFunc, .nilFunc, .nilFunc, .nilFunc, .nilFunc] 150)
  have h16 := pC HB0.out hs; clear hs
  have HB1 := sA (bel_box HB0.out (.cells #[.slice (some ⟨ga, 0, none⟩) len cR] 30)); have HKF1 := sA (blk_box HKF0.out (.cells #[.slice (some ⟨ga, 0, none⟩) len cR] 30)); have HKO1 := sA (blk_box HKO0.out (.cells #[.slice (some ⟨ga, 0, none⟩) len cR] 30)); have HKR1 := sA (al_new ((w.alloc (.cells #[.pointer (some ⟨g, 0, none⟩)] 118)).alloc (.cells #[.nilFunc, .nilFunc, .nilFunc, .nilFunc, .nilFunc, .nilFunc, .nilFunc, .nilFunc, .nilFunc, .nilFunc, .nilFunc, .nilFunc, .nilFunc, .nilFunc, .nilFunc, .nilFunc, .nilFunc, .nilFunc, .nilFunc, .nilFunc, .nilFunc] 150)) (.cells #[.slice (some ⟨ga, 0, none⟩) len cR] 30))
  have hfb := HKF1; have hrb := HKR1
  go_enter Tryz.func107, Tryz.ntmps107
  go_wp2_with fail
  clear h16 hfb hrb
  have HKRx := HKR1
  simp only [al_size] at HKRx
  clear HKR1 HB0 HKF0 HKO0 HZ0
  generalize (((w.alloc (.cells #[.pointer (some ⟨g, 0, none⟩)] 118)).alloc (.cells #[.nilFunc, .nilFunc, .nilFunc, .nilFunc, .nilFunc, .nilFunc, .nilFunc, .nilFunc, .nilFunc, .nilFunc, .nilFunc, .nilFunc, .nilFunc, .nilFunc, .nilFunc, .nilFunc, .nilFunc, .nilFunc, .nilFunc, .nilFunc, .nilFunc] 150)).alloc (.cells #[.slice (some ⟨ga, 0, none⟩) len cR] 30)) = W3 at *
  have HKR1 := HKRx; clear HKRx
  go_at_call 125
  refine (impl_mkset _ _ _ _).mono ?_
  rintro e w2 ⟨k0, rfl, ho, hb⟩
  have HB2 := sA (bC HB1.out hb); have HKF2 := sA (bB HKF1.out hb); have HKO2 := sA (bB HKO1.out hb); have HKR2 := sA (bB HKR1.out hb); have HD0_2 := sA ho; clear ho; clear hb
  go_wp2_with fail
  go_at_call 125
  refine (impl_mkset _ _ _ _).mono ?_
  rintro e w3 ⟨k1, rfl, ho, hb⟩
  have HB3 := sA (bC HB2.out hb); have HKF3 := sA (bB HKF2.out hb); have HKO3 := sA (bB HKO2.out hb); have HKR3 := sA (bB HKR2.out hb); have HD1_3 := sA ho; have HD0_3 := sA (bB HD0_2.out hb); clear ho; clear hb
  go_wp2_with fail
  go_at_call 125
  refine (impl_mkset _ _ _ _).mono ?_
  rintro e w4 ⟨k2, rfl, ho, hb⟩
  have HB4 := sA (bC HB3.out hb); have HKF4 := sA (bB HKF3.out hb); have HKO4 := sA (bB HKO3.out hb); have HKR4 := sA (bB HKR3.out hb); have HD2_4 := sA ho; have HD0_4 := sA (bB HD0_3.out hb); have HD1_4 := sA (bB HD1_3.out hb); clear ho; clear hb
  go_wp2_with fail
  go_at_call 125
  refine (impl_mkset _ _ _ _).mono ?_
  rintro e w5 ⟨k3, rfl, ho, hb⟩
  have HB5 := sA (bC HB4.out hb); have HKF5 := sA (bB HKF4.out hb); have HKO5 := sA (bB HKO4.out hb); have HKR5 := sA (bB HKR4.out hb); have HD3_5 := sA ho; have HD0_5 := sA (bB HD0_4.out hb); have HD1_5 := sA (bB HD1_4.out hb); have HD2_5 := sA (bB HD2_4.out hb); clear ho; clear hb
  go_wp2_with fail
  go_at_call 125
  refine (impl_mkset _ _ _ _).mono ?_
  rintro e w6 ⟨k4, rfl, ho, hb⟩
  have HB6 := sA (bC HB5.out hb); have HKF6 := sA (bB HKF5.out hb); have HKO6 := sA (bB HKO5.out hb); have HKR6 := sA (bB HKR5.out hb); have HD4_6 := sA ho; have HD0_6 := sA (bB HD0_5.out hb); have HD1_6 := sA (bB HD1_5.out hb); have HD2_6 := sA (bB HD2_5.out hb); have HD3_6 := sA (bB HD3_5.out hb); clear ho; clear hb
  go_wp2_with fail
  go_at_call 125
  refine (impl_mkset _ _ _ _).mono ?_
  rintro e w7 ⟨k5, rfl, ho, hb⟩
  have HB7 := sA (bC HB6.out hb); have HKF7 := sA (bB HKF6.out hb); have HKO7 := sA (bB HKO6.out hb); have HKR7 := sA (bB HKR6.out hb); have HD5_7 := sA ho; have HD0_7 := sA (bB HD0_6.out hb); have HD1_7 := sA (bB HD1_6.out hb); have HD2_7 := sA (bB HD2_6.out hb); have HD3_7 := sA (bB HD3_6.out hb); have HD4_7 := sA (bB HD4_6.out hb); clear ho; clear hb
  go_wp2_with fail
  go_at_call 125
  refine (impl_mkset _ _ _ _).mono ?_
  rintro e w8 ⟨k6, rfl, ho, hb⟩
  have HB8 := sA (bC HB7.out hb); have HKF8 := sA (bB HKF7.out hb); have HKO8 := sA (bB HKO7.out hb); have HKR8 := sA (bB HKR7.out hb); have HD6_8 := sA ho; have HD0_8 := sA (bB HD0_7.out hb); have HD1_8 := sA (bB HD1_7.out hb); have HD2_8 := sA (bB HD2_7.out hb); have HD3_8 := sA (bB HD3_7.out hb); have HD4_8 := sA (bB HD4_7.out hb); have HD5_8 := sA (bB HD5_7.out hb); clear ho; clear hb
  go_wp2_with fail
  go_at_call 125
  refine (impl_mkset _ _ _ _).mono ?_
  rintro e w9 ⟨k7, rfl, ho, hb⟩
  have HB9 := sA (bC HB8.out hb); have HKF9 := sA (bB HKF8.out hb); have HKO9 := sA (bB HKO8.out hb); have HKR9 := sA (bB HKR8.out hb); have HD7_9 := sA ho; have HD0_9 := sA (bB HD0_8.out hb); have HD1_9 := sA (bB HD1_8.out hb); have HD2_9 := sA (bB HD2_8.out hb); have HD3_9 := sA (bB HD3_8.out hb); have HD4_9 := sA (bB HD4_8.out hb); have HD5_9 := sA (bB HD5_8.out hb); have HD6_9 := sA (bB HD6_8.out hb); clear ho; clear hb
  go_wp2_with fail
  go_at_call 125
  refine (impl_mkset _ _ _ _).mono ?_
  rintro e w10 ⟨k8, rfl, ho, hb⟩
  have HB10 := sA (bC HB9.out hb); have HKF10 := sA (bB HKF9.out hb); have HKO10 := sA (bB HKO9.out hb); have HKR10 := sA (bB HKR9.out hb); have HD8_10 := sA ho; have HD0_10 := sA (bB HD0_9.out hb); have HD1_10 := sA (bB HD1_9.out hb); have HD2_10 := sA (bB HD2_9.out hb); have HD3_10 := sA (bB HD3_9.out hb); have HD4_10 := sA (bB HD4_9.out hb); have HD5_10 := sA (bB HD5_9.out hb); have HD6_10 := sA (bB HD6_9.out hb); have HD7_10 := sA (bB HD7_9.out hb); clear ho; clear hb
  go_wp2_with fail
  go_at_call 125
  refine (impl_mkset _ _ _ _).mono ?_
  rintro e w11 ⟨k9, rfl, ho, hb⟩
  have HB11 := sA (bC HB10.out hb); have HKF11 := sA (bB HKF10.out hb); have HKO11 := sA (bB HKO10.out hb); have HKR11 := sA (bB HKR10.out hb); have HD9_11 := sA ho; have HD0_11 := sA (bB HD0_10.out hb); have HD1_11 := sA (bB HD1_10.out hb); have HD2_11 := sA (bB HD2_10.out hb); have HD3_11 := sA (bB HD3_10.out hb); have HD4_11 := sA (bB HD4_10.out hb); have HD5_11 := sA (bB HD5_10.out hb); have HD6_11 := sA (bB HD6_10.out hb); have HD7_11 := sA (bB HD7_10.out hb); have HD8_11 := sA (bB HD8_10.out hb); clear ho; clear hb
  go_wp2_with fail
  go_at_call 125
  refine (impl_mkset _ _ _ _).mono ?_
  rintro e w12 ⟨k10, rfl, ho, hb⟩
  have HB12 := sA (bC HB11.out hb); have HKF12 := sA (bB HKF11.out hb); have HKO12 := sA (bB HKO11.out hb); have HKR12 := sA (bB HKR11.out hb); have HD10_12 := sA ho; have HD0_12 := sA (bB HD0_11.out hb); have HD1_12 := sA (bB HD1_11.out hb); have HD2_12 := sA (bB HD2_11.out hb); have HD3_12 := sA (bB HD3_11.out hb); have HD4_12 := sA (bB HD4_11.out hb); have HD5_12 := sA (bB HD5_11.out hb); have HD6_12 := sA (bB HD6_11.out hb); have HD7_12 := sA (bB HD7_11.out hb); have HD8_12 := sA (bB HD8_11.out hb); have HD9_12 := sA (bB HD9_11.out hb); clear ho; clear hb
  go_wp2_with fail
  go_at_call 125
  refine (impl_mkset _ _ _ _).mono ?_
  rintro e w13 ⟨k11, rfl, ho, hb⟩
  have HB13 := sA (bC HB12.out hb); have HKF13 := sA (bB HKF12.out hb); have HKO13 := sA (bB HKO12.out hb); have HKR13 := sA (bB HKR12.out hb); have HD11_13 := sA ho; have HD0_13 := sA (bB HD0_12.out hb); have HD1_13 := sA (bB HD1_12.out hb); have HD2_13 := sA (bB HD2_12.out hb); have HD3_13 := sA (bB HD3_12.out hb); have HD4_13 := sA (bB HD4_12.out hb); have HD5_13 := sA (bB HD5_12.out hb); have HD6_13 := sA (bB HD6_12.out hb); have HD7_13 := sA (bB HD7_12.out hb); have HD8_13 := sA (bB HD8_12.out hb); have HD9_13 := sA (bB HD9_12.out hb); have HD10_13 := sA (bB HD10_12.out hb); clear ho; clear hb
  go_wp2_with fail
  go_at_call 125
  refine (impl_mkset _ _ _ _).mono ?_
  rintro e w14 ⟨k12, rfl, ho, hb⟩
  have HB14 := sA (bC HB13.out hb); have HKF14 := sA (bB HKF13.out hb); have HKO14 := sA (bB HKO13.out hb); have HKR14 := sA (bB HKR13.out hb); have HD12_14 := sA ho; have HD0_14 := sA (bB HD0_13.out hb); have HD1_14 := sA (bB HD1_13.out hb); have HD2_14 := sA (bB HD2_13.out hb); have HD3_14 := sA (bB HD3_13.out hb); have HD4_14 := sA (bB HD4_13.out hb); have HD5_14 := sA (bB HD5_13.out hb); have HD6_14 := sA (bB HD6_13.out hb); have HD7_14 := sA (bB HD7_13.out hb); have HD8_14 := sA (bB HD8_13.out hb); have HD9_14 := sA (bB HD9_13.out hb); have HD10_14 := sA (bB HD10_13.out hb); have HD11_14 := sA (bB HD11_13.out hb); clear ho; clear hb
  go_wp2_with fail
  go_at_call 125
  refine (impl_mkset _ _ _ _).mono ?_
  rintro e w15 ⟨k13, rfl, ho, hb⟩
  have HB15 := sA (bC HB14.out hb); have HKF15 := sA (bB HKF14.out hb); have HKO15 := sA (bB HKO14.out hb); have HKR15 := sA (bB HKR14.out hb); have HD13_15 := sA ho; have HD0_15 := sA (bB HD0_14.out hb); have HD1_15 := sA (bB HD1_14.out hb); have HD2_15 := sA (bB HD2_14.out hb); have HD3_15 := sA (bB HD3_14.out hb); have HD4_15 := sA (bB HD4_14.out hb); have HD5_15 := sA (bB HD5_14.out hb); have HD6_15 := sA (bB HD6_14.out hb); have HD7_15 := sA (bB HD7_14.out hb); have HD8_15 := sA (bB HD8_14.out hb); have HD9_15 := sA (bB HD9_14.out hb); have HD10_15 := sA (bB HD10_14.out hb); have HD11_15 := sA (bB HD11_14.out hb); have HD12_15 := sA (bB HD12_14.out hb); clear ho; clear hb
  go_wp2_with fail
  go_at_call 125
  refine (impl_mkset _ _ _ _).mono ?_
  rintro e w16 ⟨k14, rfl, ho, hb⟩
  have HB16 := sA (bC HB15.out hb); have HKF16 := sA (bB HKF15.out hb); have HKO16 := sA (bB HKO15.out hb); have HKR16 := sA (bB HKR15.out hb); have HD14_16 := sA ho; have HD0_16 := sA (bB HD0_15.out hb); have HD1_16 := sA (bB HD1_15.out hb); have HD2_16 := sA (bB HD2_15.out hb); have HD3_16 := sA (bB HD3_15.out hb); have HD4_16 := sA (bB HD4_15.out hb); have HD5_16 := sA (bB HD5_15.out hb); have HD6_16 := sA (bB HD6_15.out hb); have HD7_16 := sA (bB HD7_15.out hb); have HD8_16 := sA (bB HD8_15.out hb); have HD9_16 := sA (bB HD9_15.out hb); have HD10_16 := sA (bB HD10_15.out hb); have HD11_16 := sA (bB HD11_15.out hb); have HD12_16 := sA (bB HD12_15.out hb); have HD13_16 := sA (bB HD13_15.out hb); clear ho; clear hb
  go_wp2_with ((with_reducible refine gate_store (t := 150) (p := 2) rfl ?_); refine wpList_putAll rfl rfl _ _ _ rfl (g := w.heap.size + 1) [.nilFunc, .func (.func 126) #[] #[.pointer (some ⟨k0, 0, none⟩), .pointer (some ⟨w.heap.size + 1 + 1, 0, none⟩)], .func (.func 126) #[] #[.pointer (some ⟨k1, 0, none⟩), .pointer (some ⟨w.heap.size + 1 + 1, 0, none⟩)], .func (.func 126) #[] #[.pointer (some ⟨k2, 0, none⟩), .pointer (some ⟨w.heap.size + 1 + 1, 0, none⟩)], .func (.func 126) #[] #[.pointer (some ⟨k3, 0, none⟩), .pointer (some ⟨w.heap.size + 1 + 1, 0, none⟩)], .func (.func 126) #[] #[.pointer (some ⟨k4, 0, none⟩), .pointer (some ⟨w.heap.size + 1 + 1, 0, none⟩)], .func (.func 126) #[] #[.pointer (some ⟨k5, 0, none⟩), .pointer (some ⟨w.heap.size + 1 + 1, 0, none⟩)], .func (.func 126) #[] #[.pointer (some ⟨k6, 0, none⟩), .pointer (some ⟨w.heap.size + 1 + 1, 0, none⟩)], .func (.func 126) #[] #[.pointer (some ⟨k7, 0, none⟩), .pointer (some ⟨w.heap.size + 1 + 1, 0, none⟩)], .func (.func 126) #[] #[.pointer (some ⟨k8, 0, none⟩), .pointer (some ⟨w.heap.size + 1 + 1, 0, none⟩)], .func (.func 126) #[] #[.pointer (some ⟨k9, 0, none⟩), .pointer (some ⟨w.heap.size + 1 + 1, 0, none⟩)], .func (.func 126) #[] #[.pointer (some ⟨k10, 0, none⟩), .pointer (some ⟨w.heap.size + 1 + 1, 0, none⟩)], .func (.func 126) #[] #[.pointer (some ⟨k11, 0, none⟩), .pointer (some ⟨w.heap.size + 1 + 1, 0, none⟩)], .func (.func 126) #[] #[.pointer (some ⟨k12, 0, none⟩), .pointer (some ⟨w.heap.size + 1 + 1, 0, none⟩)], .func (.func 126) #[] #[.pointer (some ⟨k13, 0, none⟩), .pointer (some ⟨w.heap.size + 1 + 1, 0, none⟩)], .func (.func 143) #[] #[.pointer (some ⟨w.heap.size + 1 + 1, 0, none⟩)], .func (.func 144) #[] #[.pointer (some ⟨w.heap.size + 1 + 1, 0, none⟩)], .func (.func 145) #[] #[], .func (.func 146) #[] #[.pointer (some ⟨w.heap.size + 1 + 1, 0, none⟩), .pointer (some ⟨w.heap.size, 0, none⟩)], .func (.func 147) #[] #[.pointer (some ⟨w.heap.size, 0, none⟩), .pointer (some ⟨w.heap.size + 1 + 1, 0, none⟩)], .func (.func 126) #[] #[.pointer (some ⟨k14, 0, none⟩), .pointer (some ⟨w.heap.size + 1 + 1, 0, none⟩)]] rfl rfl (by kernel_rfl) (List.all_eq_true.1 (show List.all [.nilFunc, .func (.func 126) #[] #[.pointer (some ⟨k0, 0, none⟩), .pointer (some ⟨w.heap.size + 1 + 1, 0, none⟩)], .func (.func 126) #[] #[.pointer (some ⟨k1, 0, none⟩), .pointer (some ⟨w.heap.size + 1 + 1, 0, none⟩)], .func (.func 126) #[] #[.pointer (some ⟨k2, 0, none⟩), .pointer (some ⟨w.heap.size + 1 + 1, 0, none⟩)], .func (.func 126) #[] #[.pointer (some ⟨k3, 0, none⟩), .pointer (some ⟨w.heap.size + 1 + 1, 0, none⟩)], .func (.func 126) #[] #[.pointer (some ⟨k4, 0, none⟩), .pointer (some ⟨w.heap.size + 1 + 1, 0, none⟩)], .func (.func 126) #[] #[.pointer (some ⟨k5, 0, none⟩), .pointer (some ⟨w.heap.size + 1 + 1, 0, none⟩)], .func (.func 126) #[] #[.pointer (some ⟨k6, 0, none⟩), .pointer (some ⟨w.heap.size + 1 + 1, 0, none⟩)], .func (.func 126) #[] #[.pointer (some ⟨k7, 0, none⟩), .pointer (some ⟨w.heap.size + 1 + 1, 0, none⟩)], .func (.func 126) #[] #[.pointer (some ⟨k8, 0, none⟩), .pointer (some ⟨w.heap.size + 1 + 1, 0, none⟩)], .func (.func 126) #[] #[.pointer (some ⟨k9, 0, none⟩), .pointer (some ⟨w.heap.size + 1 + 1, 0, none⟩)], .func (.func 126) #[] #[.pointer (some ⟨k10, 0, none⟩), .pointer (some ⟨w.heap.size + 1 + 1, 0, none⟩)], .func (.func 126) #[] #[.pointer (some ⟨k11, 0, none⟩), .pointer (some ⟨w.heap.size + 1 + 1, 0, none⟩)], .func (.func 126) #[] #[.pointer (some ⟨k12, 0, none⟩), .pointer (some ⟨w.heap.size + 1 + 1, 0, none⟩)], .func (.func 126) #[] #[.pointer (some ⟨k13, 0, none⟩), .pointer (some ⟨w.heap.size + 1 + 1, 0, none⟩)], .func (.func 143) #[] #[.pointer (some ⟨w.heap.size + 1 + 1, 0, none⟩)], .func (.func 144) #[] #[.pointer (some ⟨w.heap.size + 1 + 1, 0, none⟩)], .func (.func 145) #[] #[], .func (.func 146) #[] #[.pointer (some ⟨w.heap.size + 1 + 1, 0, none⟩), .pointer (some ⟨w.heap.size, 0, none⟩)], .func (.func 147) #[] #[.pointer (some ⟨w.heap.size, 0, none⟩), .pointer (some ⟨w.heap.size + 1 + 1, 0, none⟩)], .func (.func 126) #[] #[.pointer (some ⟨k14, 0, none⟩), .pointer (some ⟨w.heap.size + 1 + 1, 0, none⟩)]] Value.oneCell' = true from rfl)) HKO16.out rfl ?_; intro wf hf htf _; have HFF := sA hf; have HTF := sA htf; clear hf htf)
  refine bodyPost_ret (results_cell Tryz.results107 rfl HFF.out Tryz.underlying150 rfl (by kernel_rfl)) rfl ⟨w.heap.size, w.heap.size + 1 + 1, [k0, k1, k2, k3, k4, k5, k6, k7, k8, k9, k10, k11, k12, k13, k14], rfl, ?_, ?_, ?_, ?_⟩
  · exact HTF.out.below w (fun k hk => by omega) HB16.out
  · exact (HTF.out.same _ (blk_lt HKF16.out) (by omega)).trans HKF16.out
  · exact (HTF.out.same _ (blk_lt HKR16.out) (by omega)).trans HKR16.out
  · intro j hj
    have hko := HKO16.out
    rcases (show j = 0 ∨ j = 1 ∨ j = 2 ∨ j = 3 ∨ j = 4 ∨ j = 5 ∨ j = 6 ∨ j = 7 ∨ j = 8 ∨ j = 9 ∨ j = 10 ∨ j = 11 ∨ j = 12 ∨ j = 13 ∨ j = 14 by omega) with rfl | rfl | rfl | rfl | rfl | rfl | rfl | rfl | rfl | rfl | rfl | rfl | rfl | rfl | rfl
    · exact (HTF.out.same k0 (blk_lt HD0_16.out) (fun e => by have e' : k0 = w.heap.size + 1 := e; have h := HD0_16.out; rw [e', hko] at h; injection h with h; injection h with _ h; exact absurd h (by decide))).trans HD0_16.out
    · exact (HTF.out.same k1 (blk_lt HD1_16.out) (fun e => by have e' : k1 = w.heap.size + 1 := e; have h := HD1_16.out; rw [e', hko] at h; injection h with h; injection h with _ h; exact absurd h (by decide))).trans HD1_16.out
    · exact (HTF.out.same k2 (blk_lt HD2_16.out) (fun e => by have e' : k2 = w.heap.size + 1 := e; have h := HD2_16.out; rw [e', hko] at h; injection h with h; injection h with _ h; exact absurd h (by decide))).trans HD2_16.out
    · exact (HTF.out.same k3 (blk_lt HD3_16.out) (fun e => by have e' : k3 = w.heap.size + 1 := e; have h := HD3_16.out; rw [e', hko] at h; injection h with h; injection h with _ h; exact absurd h (by decide))).trans HD3_16.out
    · exact (HTF.out.same k4 (blk_lt HD4_16.out) (fun e => by have e' : k4 = w.heap.size + 1 := e; have h := HD4_16.out; rw [e', hko] at h; injection h with h; injection h with _ h; exact absurd h (by decide))).trans HD4_16.out
    · exact (HTF.out.same k5 (blk_lt HD5_16.out) (fun e => by have e' : k5 = w.heap.size + 1 := e; have h := HD5_16.out; rw [e', hko] at h; injection h with h; injection h with _ h; exact absurd h (by decide))).trans HD5_16.out
    · exact (HTF.out.same k6 (blk_lt HD6_16.out) (fun e => by have e' : k6 = w.heap.size + 1 := e; have h := HD6_16.out; rw [e', hko] at h; injection h with h; injection h with _ h; exact absurd h (by decide))).trans HD6_16.out
    · exact (HTF.out.same k7 (blk_lt HD7_16.out) (fun e => by have e' : k7 = w.heap.size + 1 := e; have h := HD7_16.out; rw [e', hko] at h; injection h with h; injection h with _ h; exact absurd h (by decide))).trans HD7_16.out
    · exact (HTF.out.same k8 (blk_lt HD8_16.out) (fun e => by have e' : k8 = w.heap.size + 1 := e; have h := HD8_16.out; rw [e', hko] at h; injection h with h; injection h with _ h; exact absurd h (by decide))).trans HD8_16.out
    · exact (HTF.out.same k9 (blk_lt HD9_16.out) (fun e => by have e' : k9 = w.heap.size + 1 := e; have h := HD9_16.out; rw [e', hko] at h; injection h with h; injection h with _ h; exact absurd h (by decide))).trans HD9_16.out
    · exact (HTF.out.same k10 (blk_lt HD10_16.out) (fun e => by have e' : k10 = w.heap.size + 1 := e; have h := HD10_16.out; rw [e', hko] at h; injection h with h; injection h with _ h; exact absurd h (by decide))).trans HD10_16.out
    · exact (HTF.out.same k11 (blk_lt HD11_16.out) (fun e => by have e' : k11 = w.heap.size + 1 := e; have h := HD11_16.out; rw [e', hko] at h; injection h with h; injection h with _ h; exact absurd h (by decide))).trans HD11_16.out
    · exact (HTF.out.same k12 (blk_lt HD12_16.out) (fun e => by have e' : k12 = w.heap.size + 1 := e; have h := HD12_16.out; rw [e', hko] at h; injection h with h; injection h with _ h; exact absurd h (by decide))).trans HD12_16.out
    · exact (HTF.out.same k13 (blk_lt HD13_16.out) (fun e => by have e' : k13 = w.heap.size + 1 := e; have h := HD13_16.out; rw [e', hko] at h; injection h with h; injection h with _ h; exact absurd h (by decide))).trans HD13_16.out
    · exact (HTF.out.same k14 (blk_lt HD14_16.out) (fun e => by have e' : k14 = w.heap.size + 1 := e; have h := HD14_16.out; rw [e', hko] at h; injection h with h; injection h with _ h; exact absurd h (by decide))).trans HD14_16.out
end
end Go.Proofs.YtlhpbpkefkabgaaGreat.L1
