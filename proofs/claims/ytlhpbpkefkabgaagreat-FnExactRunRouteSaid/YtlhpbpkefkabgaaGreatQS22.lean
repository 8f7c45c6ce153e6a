/- An instruction carried out by the program's table of operations. -/
import Derived.Test.YtlhpbpkefkabgaaGreatQS21
namespace Go.Proofs.YtlhpbpkefkabgaaGreat.L1
open Go.RowKit Go.Proofs.YtlhpbpkefkabgaaGreatW.PrintWords Go.Proofs.YtlhpbpkefkabgaaGreat.B
set_option linter.unusedVariables false
set_option linter.unusedSimpArgs false
def brk (r : Int) : Int := if r < 0 then 0 else r
/-- The boxes behind the table of operations. -/
structure Tab (W : World) (fb rb : Nat) (ks : List Nat) (g ga len cR ob : Nat) : Prop where
  o : W.heap[ob]? = some (.cells (opsA fb rb ks) 150 (0, 0))
  f : W.heap[fb]? = some (.cells #[.pointer (some ⟨g, 0, none⟩)] 118 (0, 0))
  r : W.heap[rb]? = some (.cells #[.slice (some ⟨ga, 0, none⟩) len cR] 30 (0, 0))
  d : ∀ j, j < 15 → W.heap[ks.getD j 0]? = some (.cells #[(doL fb rb).getD j undef] 149 (0, 0))
/-- The machine's memory in the program: the frame, its registers, its slots. -/
structure MInv (w0 : World) (FC : Int → Array Value) (g ga len cR : Nat) (s2 s0 : Value) (st : List Int) (W : World) (m : Mem) : Prop where
  bel : Below w0.heap.size w0 W
  gw : w0.heap.size ≤ g
  aw : w0.heap.size ≤ ga
  ln : m.regs.length = len
  fr : W.heap[g]? = some (.cells (FC (brk m.rule)) 125 (0, 0))
  r1 : kInt.R 2 W w0.heap.size (fun _ => True) (.slice (some ⟨ga, 0, none⟩) len cR) m.regs
  r2 : kInt.R 2 W w0.heap.size (fun _ => True) s2 m.slots
  ne : s2.ownBlock ≠ some ga
  r0 : kInt.R 2 W w0.heap.size (fun _ => True) s0 st
  ne0 : s0.ownBlock ≠ some ga
  ne2 : ∀ k, s0.ownBlock = some k → s2.ownBlock ≠ some k
theorem blk_ne {W : World} {a b : Nat} {ca cb : Array Value} {ta tb : TypeId} (ha : W.heap[a]? = some (.cells ca ta (0, 0))) (hb : W.heap[b]? = some (.cells cb tb (0, 0))) (h : ta ≠ tb) : a ≠ b := fun e => by
  rw [e, hb] at ha; injection ha with ha; injection ha with _ h2; exact h h2.symm
theorem Tab.below {W W' : World} {fb rb : Nat} {ks : List Nat} {g ga len cR ob : Nat} (h : Tab W fb rb ks g ga len cR ob) (hb : Below W.heap.size W W') : Tab W' fb rb ks g ga len cR ob :=
  ⟨bB h.o hb, bB h.f hb, bB h.r hb, fun j hj => bB (h.d j hj) hb⟩
theorem Tab.tch {W W' : World} {fb rb : Nat} {ks : List Nat} {g ga len cR ob b : Nat} {cs : Array Value} {T : TypeId} (h : Tab W fb rb ks g ga len cR ob) (ht : Tch (fun k => k = b) W W') (hb : W.heap[b]? = some (.cells cs T (0, 0))) (h1 : 118 ≠ T) (h2 : 30 ≠ T) (h3 : 149 ≠ T) (h4 : 150 ≠ T) : Tab W' fb rb ks g ga len cR ob :=
  ⟨(ht.same _ (blk_lt h.o) (blk_ne h.o hb h4)).trans h.o, (ht.same _ (blk_lt h.f) (blk_ne h.f hb h1)).trans h.f, (ht.same _ (blk_lt h.r) (blk_ne h.r hb h2)).trans h.r, fun j hj => (ht.same _ (blk_lt (h.d j hj)) (blk_ne (h.d j hj) hb h3)).trans (h.d j hj)⟩
theorem int_keep {e base : Nat} {W W' : World} {v : Value} {xs : List Int} (h : kInt.R e W base (fun _ => True) v xs) (hk : ∀ k, v.ownBlock = some k → k < W.heap.size → W'.heap[k]? = W.heap[k]?) : kInt.R e W' base (fun _ => True) v xs := by
  have h1 : kInt.R e W base (fun k => v.ownBlock = some k) v xs := ⟨fun k hk => hk, h.2⟩
  exact Kd.R_mono (Kd.R_step h1 fun k ho hl => hk k ho hl) fun _ _ => trivial
theorem row_blk {e base : Nat} {W : World} {ok : Nat → Prop} {g n cap : Nat} {xs : List Int} (h : kInt.R e W base ok (.slice (some ⟨g, 0, none⟩) n cap) xs) (hp : 0 < n) : ∃ cells, W.heap[g]? = some (.cells cells e (0, 0)) := by
  have hn := (Kd.R_reads' h).1
  obtain ⟨g', cap', hv, _, _, cells, hcl⟩ := Kd.R_form h (by omega)
  injection hv with h1; injection h1 with h1; injection h1 with h1
  rw [h1]; exact ⟨cells, hcl⟩
theorem own_blk {e base : Nat} {W : World} {ok : Nat → Prop} {v : Value} {xs : List Int} (h : kInt.R e W base ok v xs) {k : Nat} (hk : v.ownBlock = some k) : ∃ cells, W.heap[k]? = some (.cells cells e (0, 0)) := by
  obtain ⟨_, _, _, q, hq, cells, hc⟩ := (Kd.R_bound (show kInt.R e W base (fun _ => True) v xs from Kd.R_mono h fun _ _ => trivial)).1 k hk
  have : q = e := by rcases List.mem_cons.1 hq with h | h; exact h; cases h
  rw [← this]; exact ⟨cells, hc⟩
section
set_option maxRecDepth 100000 in
set_option maxHeartbeats 4000000 in
theorem put_case (w0 : World) (fp fn ft fd fl : Int) (k0 k1 k2 k3 k4 : Value) (B0 : Option Addr) (d0 : Nat) (B1 : Option Addr) (d1 : Nat) (B2 : Option Addr) (d2 : Nat) (x : Inst) (kv : Nat) (fq : Int) (s0 s2 : Value) (g ga len cR fb rb : Nat) (ks : List Nat) (ob : Nat) (regs slots : Int) (m : Mem) (W : World) (st : List Int) (hI : MInv w0 (fun br => frameC fp fn ft fd fl k0 k1 k2 k3 k4 (.slice B0 x.vs.length d0) (.slice B1 x.qs.length d1) (.slice B2 x.rs.length d2) kv fq s0 (.slice (some ⟨ga, 0, none⟩) len cR) s2 br) g ga len cR s2 s0 st W m) (hT : Tab W fb rb ks g ga len cR ob) (hm : Mok (envOf x kv fq) regs slots m) (y : Ins) (k : Nat) (j i : Nat) (caps : Array Value) (hj : j < 15) (hd : (doL fb rb).getD j undef = .func (.func i) #[] caps) (ho : (opsA fb rb ks)[y.op.toNat]? = some (.func (.func 126) #[] #[.pointer (some ⟨ks.getD j 0, 0, none⟩), .pointer (some ⟨rb, 0, none⟩)]))
    (eg : ∀ args w, (callFunc i args).run Tryz.prog w = .ok (.enter i args) w) (ha : ∃ ka : Nat, y.a = ka ∧ ka < len) (hst : stepI (envOf x kv fq) k m y = (k + 1, { m with regs := putI m.regs y.a (insV (envOf x kv fq) m y) })) (hv : ∀ W' : World, Below W.heap.size W W' → Calls Tryz.prog i (#[.agg #[.int .i64 y.op, .int .i64 y.a, .int .i64 y.b, .int .i64 y.c]] ++ caps) W' fun e w' => e = .returned (.int .i64 (insV (envOf x kv fq) m y)) ∧ Below W'.heap.size W' w') : ∃ i caps, (opsA fb rb ks)[y.op.toNat]? = some (.func (.func i) #[] caps) ∧ (∀ args w, (callFunc i args).run Tryz.prog w = .ok (.enter i args) w) ∧ Calls Tryz.prog i (#[.agg #[.int .i64 y.op, .int .i64 y.a, .int .i64 y.b, .int .i64 y.c]] ++ caps) W fun e w' => ∃ nx : Int, e = .returned (.int .i64 nx) ∧ (if nx < 0 then (k : Int) + 1 else nx) = ((stepI (envOf x kv fq) k m y).1 : Int) ∧ MInv w0 (fun br => frameC fp fn ft fd fl k0 k1 k2 k3 k4 (.slice B0 x.vs.length d0) (.slice B1 x.qs.length d1) (.slice B2 x.rs.length d2) kv fq s0 (.slice (some ⟨ga, 0, none⟩) len cR) s2 br) g ga len cR s2 s0 st w' (stepI (envOf x kv fq) k m y).2 ∧ Tab w' fb rb ks g ga len cR ob := by
  obtain ⟨ka, hka, hkl⟩ := ha
  obtain ⟨yo, ya, yb, yc⟩ := y
  dsimp only at *
  subst hka
  have hln := hI.ln
  refine ⟨_, _, ho, enters_of Tryz.func126 (by kernel_rfl) rfl, ?_⟩
  rw [hst]
  have hr1 := hI.r1
  rw [← hln] at hr1
  have hc := impl_set W i caps eg w0 yo yb yc (insV (envOf x kv fq) m ⟨yo, (ka : Int), yb, yc⟩) (ks.getD j 0) rb ga cR ka m.regs (by rw [blk_cell (hT.d j hj) 0, hd]; rfl) (by rw [blk_cell hT.r 0, hln]; rfl) hr1 hI.bel hI.aw (by omega) hv
  refine hc.mono ?_
  rintro e w' ⟨rfl, h1, h2, h3⟩
  obtain ⟨cells, hga⟩ := row_blk hr1 (by omega)
  refine ⟨-1, rfl, by simp, ⟨h2, hI.gw, hI.aw, by show (putI _ _ _).length = _; unfold putI; rw [List.length_set]; exact hln, ?_, ?_, ?_, hI.ne, int_keep hI.r0 fun k hk hl => h3.same k hl (fun e => hI.ne0 (by rw [hk, e])), hI.ne0, hI.ne2⟩, hT.tch h3 hga (by decide) (by decide) (by decide) (by decide)⟩
  · exact (h3.same g (blk_lt hI.fr) (blk_ne hI.fr hga (by decide))).trans hI.fr
  · rw [← hln]; unfold putI; rw [Int.toNat_natCast]; exact h1
  · exact int_keep hI.r2 fun k hk hl => h3.same k hl (fun e => hI.ne (by rw [hk, e]))
/-- A closure that only answers. -/
theorem pure_case (w0 : World) (fp fn ft fd fl : Int) (k0 k1 k2 k3 k4 : Value) (B0 : Option Addr) (d0 : Nat) (B1 : Option Addr) (d1 : Nat) (B2 : Option Addr) (d2 : Nat) (x : Inst) (kv : Nat) (fq : Int) (s0 s2 : Value) (g ga len cR fb rb : Nat) (ks : List Nat) (ob : Nat) (regs slots : Int) (m : Mem) (W : World) (st : List Int) (hI : MInv w0 (fun br => frameC fp fn ft fd fl k0 k1 k2 k3 k4 (.slice B0 x.vs.length d0) (.slice B1 x.qs.length d1) (.slice B2 x.rs.length d2) kv fq s0 (.slice (some ⟨ga, 0, none⟩) len cR) s2 br) g ga len cR s2 s0 st W m) (hT : Tab W fb rb ks g ga len cR ob) (hm : Mok (envOf x kv fq) regs slots m) (y : Ins) (k : Nat) (i : Nat) (caps : Array Value) (ho : (opsA fb rb ks)[y.op.toNat]? = some (.func (.func i) #[] caps)) (eg : ∀ args w, (callFunc i args).run Tryz.prog w = .ok (.enter i args) w) (nx : Int) (hn : (if nx < 0 then (k : Int) + 1 else nx) = ((stepI (envOf x kv fq) k m y).1 : Int)) (hst : (stepI (envOf x kv fq) k m y).2 = m)
    (hv : Calls Tryz.prog i (#[.agg #[.int .i64 y.op, .int .i64 y.a, .int .i64 y.b, .int .i64 y.c]] ++ caps) W fun e w' => e = .returned (.int .i64 nx) ∧ Below W.heap.size W w') : ∃ i caps, (opsA fb rb ks)[y.op.toNat]? = some (.func (.func i) #[] caps) ∧ (∀ args w, (callFunc i args).run Tryz.prog w = .ok (.enter i args) w) ∧ Calls Tryz.prog i (#[.agg #[.int .i64 y.op, .int .i64 y.a, .int .i64 y.b, .int .i64 y.c]] ++ caps) W fun e w' => ∃ nx : Int, e = .returned (.int .i64 nx) ∧ (if nx < 0 then (k : Int) + 1 else nx) = ((stepI (envOf x kv fq) k m y).1 : Int) ∧ MInv w0 (fun br => frameC fp fn ft fd fl k0 k1 k2 k3 k4 (.slice B0 x.vs.length d0) (.slice B1 x.qs.length d1) (.slice B2 x.rs.length d2) kv fq s0 (.slice (some ⟨ga, 0, none⟩) len cR) s2 br) g ga len cR s2 s0 st w' (stepI (envOf x kv fq) k m y).2 ∧ Tab w' fb rb ks g ga len cR ob := by
  refine ⟨i, caps, ho, eg, hv.mono ?_⟩
  rintro e w' ⟨rfl, hb⟩
  refine ⟨nx, rfl, hn, ?_, hT.below hb⟩
  rw [hst]
  exact ⟨bC hI.bel hb, hI.gw, hI.aw, hI.ln, bB hI.fr hb, Kd.R_below hI.r1 hb, Kd.R_below hI.r2 hb, hI.ne, Kd.R_below hI.r0 hb, hI.ne0, hI.ne2⟩

set_option maxRecDepth 100000 in
set_option maxHeartbeats 16000000 in
theorem op_call (w0 : World) (fp fn ft fd fl : Int) (k0 k1 k2 k3 k4 : Value) (B0 : Option Addr) (d0 : Nat) (B1 : Option Addr) (d1 : Nat) (B2 : Option Addr) (d2 : Nat) (x : Inst) (kv : Nat) (fq : Int) (s0 s2 : Value) (g ga len cR fb rb : Nat) (ks : List Nat) (ob : Nat) (regs slots : Int) (m : Mem) (W : World) (st : List Int) (hI : MInv w0 (fun br => frameC fp fn ft fd fl k0 k1 k2 k3 k4 (.slice B0 x.vs.length d0) (.slice B1 x.qs.length d1) (.slice B2 x.rs.length d2) kv fq s0 (.slice (some ⟨ga, 0, none⟩) len cR) s2 br) g ga len cR s2 s0 st W m) (hT : Tab W fb rb ks g ga len cR ob) (hm : Mok (envOf x kv fq) regs slots m) (y : Ins) (k : Nat) (hV : kVeh.C w0 B0 x.vs.length x.vs) (hQ : kReq.C w0 B1 x.qs.length x.qs) (hxv : x.valid = true) (hkv : kv < x.vs.length) (hs0 : 0 ≤ slots) (hs : slots ≤ 100) (n : Nat) (hy : insOk y.op y.a y.b y.c regs slots k n = true) (hkn : k < n) (hn : n ≤ 16384) (hrule : m.rule = -1) : ∃ i caps, (opsA fb rb ks)[y.op.toNat]? = some (.func (.func i) #[] caps) ∧ (∀ args w, (callFunc i args).run Tryz.prog w = .ok (.enter i args) w) ∧ Calls Tryz.prog i (#[.agg #[.int .i64 y.op, .int .i64 y.a, .int .i64 y.b, .int .i64 y.c]] ++ caps) W fun e w' => ∃ nx : Int, e = .returned (.int .i64 nx) ∧ (if nx < 0 then (k : Int) + 1 else nx) = ((stepI (envOf x kv fq) k m y).1 : Int) ∧ MInv w0 (fun br => frameC fp fn ft fd fl k0 k1 k2 k3 k4 (.slice B0 x.vs.length d0) (.slice B1 x.qs.length d1) (.slice B2 x.rs.length d2) kv fq s0 (.slice (some ⟨ga, 0, none⟩) len cR) s2 br) g ga len cR s2 s0 st w' (stepI (envOf x kv fq) k m y).2 ∧ Tab w' fb rb ks g ga len cR ob := by
  have hln := hI.ln; have hrl := hm.rl
  have hcap : ∀ j, -1000000000 ≤ atI m.regs j ∧ atI m.regs j ≤ 1000000000 := fun j => hm.rc.at j
  have hR : ∀ W' : World, Below W.heap.size W W' → W'.cell? ⟨rb, 0, none⟩ = some (.slice (some ⟨ga, 0, none⟩) m.regs.length cR) := fun W' hb => by rw [blk_cell (bB hT.r hb) 0, hln]; rfl
  have hA : ∀ W' : World, Below W.heap.size W W' → kInt.C W' (some ⟨ga, 0, none⟩) m.regs.length m.regs := fun W' hb => (Kd.R_reads' (Kd.R_below hI.r1 hb)).2.2
  have hF : ∀ W' : World, Below W.heap.size W W' → W'.cell? ⟨fb, 0, none⟩ = some (.pointer (some ⟨g, 0, none⟩)) := fun W' hb => by rw [blk_cell (bB hT.f hb) 0]; rfl
  obtain ⟨f0, f1, f2⟩ := Inst.few_of hxv
  obtain ⟨o, a, b, c⟩ := y
  dsimp only at *
  have hy' := hy
  unfold insOk at hy
  split at hy
  · rename_i h
    simp only [Bool.and_eq_true, inB_iff] at hy
    obtain ⟨⟨ha, hb⟩, hc⟩ := hy
    obtain ⟨ka, rfl⟩ := Int.eq_ofNat_of_zero_le (show 0 ≤ a by omega)
    obtain ⟨kb, rfl⟩ := Int.eq_ofNat_of_zero_le hb.1
    obtain ⟨kc, rfl⟩ := Int.eq_ofNat_of_zero_le hc.1
    have hkb : kb < m.regs.length := by omega
    have hkc : kc < m.regs.length := by omega
    rcases (show o = 5 ∨ o = 6 ∨ o = 7 ∨ o = 8 ∨ o = 9 ∨ o = 10 ∨ o = 11 ∨ o = 12 by omega) with rfl | rfl | rfl | rfl | rfl | rfl | rfl | rfl
    · as_aux_lemma => exact put_case w0 fp fn ft fd fl k0 k1 k2 k3 k4 B0 d0 B1 d1 B2 d2 x kv fq s0 s2 g ga len cR fb rb ks ob regs slots m W st hI hT hm ⟨5, (ka : Int), (kb : Int), (kc : Int)⟩ k 4 131 _ (by omega) rfl rfl (enters_of Tryz.func131 (by kernel_rfl) rfl) ⟨ka, rfl, by omega⟩ (by unfold stepI; simp) (fun W' hb' => (by have e : satMul (atI m.regs kb) (atI m.regs kc) = insV (envOf x kv fq) m ⟨5, (ka : Int), (kb : Int), (kc : Int)⟩ := (by unfold insV; dsimp only; rw [if_neg (by decide), if_neg (by decide), if_neg (by decide), if_neg (by decide), if_neg (by decide), if_neg (by decide), if_neg (by decide), if_neg (by decide), if_neg (by decide)]; unfold binV; rw [if_pos (by decide)]); rw [← e]; exact do_mul W' 5 (ka : Int) rb ⟨ga, 0, none⟩ 0 cR m.regs (hR W' hb') (hA W' hb') kb kc hkb hkc))
    · as_aux_lemma => exact put_case w0 fp fn ft fd fl k0 k1 k2 k3 k4 B0 d0 B1 d1 B2 d2 x kv fq s0 s2 g ga len cR fb rb ks ob regs slots m W st hI hT hm ⟨6, (ka : Int), (kb : Int), (kc : Int)⟩ k 5 133 _ (by omega) rfl rfl (enters_of Tryz.func133 (by kernel_rfl) rfl) ⟨ka, rfl, by omega⟩ (by unfold stepI; simp) (fun W' hb' => (by have e : satAdd (atI m.regs kb) (atI m.regs kc) = insV (envOf x kv fq) m ⟨6, (ka : Int), (kb : Int), (kc : Int)⟩ := (by unfold insV; dsimp only; rw [if_neg (by decide), if_neg (by decide), if_neg (by decide), if_neg (by decide), if_neg (by decide), if_neg (by decide), if_neg (by decide), if_neg (by decide), if_neg (by decide)]; unfold binV; rw [if_neg (by decide), if_pos (by decide)]); rw [← e]; exact do_add W' 6 (ka : Int) rb ⟨ga, 0, none⟩ 0 cR m.regs (hR W' hb') (hA W' hb') kb kc hkb hkc))
    · as_aux_lemma => exact put_case w0 fp fn ft fd fl k0 k1 k2 k3 k4 B0 d0 B1 d1 B2 d2 x kv fq s0 s2 g ga len cR fb rb ks ob regs slots m W st hI hT hm ⟨7, (ka : Int), (kb : Int), (kc : Int)⟩ k 6 134 _ (by omega) rfl rfl (enters_of Tryz.func134 (by kernel_rfl) rfl) ⟨ka, rfl, by omega⟩ (by unfold stepI; simp) (fun W' hb' => (by have e : satAdd (atI m.regs kb) (-atI m.regs kc) = insV (envOf x kv fq) m ⟨7, (ka : Int), (kb : Int), (kc : Int)⟩ := (by unfold insV; dsimp only; rw [if_neg (by decide), if_neg (by decide), if_neg (by decide), if_neg (by decide), if_neg (by decide), if_neg (by decide), if_neg (by decide), if_neg (by decide), if_neg (by decide)]; unfold binV; rw [if_neg (by decide), if_neg (by decide), if_pos (by decide)]); rw [← e]; exact do_sub W' 7 (ka : Int) rb ⟨ga, 0, none⟩ 0 cR m.regs (hR W' hb') (hA W' hb') kb kc hkb hkc (hcap _)))
    · as_aux_lemma => exact put_case w0 fp fn ft fd fl k0 k1 k2 k3 k4 B0 d0 B1 d1 B2 d2 x kv fq s0 s2 g ga len cR fb rb ks ob regs slots m W st hI hT hm ⟨8, (ka : Int), (kb : Int), (kc : Int)⟩ k 7 135 _ (by omega) rfl rfl (enters_of Tryz.func135 (by kernel_rfl) rfl) ⟨ka, rfl, by omega⟩ (by unfold stepI; simp) (fun W' hb' => (by have e : bitI (decide (atI m.regs kb < atI m.regs kc)) = insV (envOf x kv fq) m ⟨8, (ka : Int), (kb : Int), (kc : Int)⟩ := (by unfold insV; dsimp only; rw [if_neg (by decide), if_neg (by decide), if_neg (by decide), if_neg (by decide), if_neg (by decide), if_neg (by decide), if_neg (by decide), if_neg (by decide), if_neg (by decide)]; unfold binV; rw [if_neg (by decide), if_neg (by decide), if_neg (by decide), if_pos (by decide)]); rw [← e]; exact do_lt W' 8 (ka : Int) rb ⟨ga, 0, none⟩ 0 cR m.regs (hR W' hb') (hA W' hb') kb kc hkb hkc))
    · as_aux_lemma => exact put_case w0 fp fn ft fd fl k0 k1 k2 k3 k4 B0 d0 B1 d1 B2 d2 x kv fq s0 s2 g ga len cR fb rb ks ob regs slots m W st hI hT hm ⟨9, (ka : Int), (kb : Int), (kc : Int)⟩ k 8 136 _ (by omega) rfl rfl (enters_of Tryz.func136 (by kernel_rfl) rfl) ⟨ka, rfl, by omega⟩ (by unfold stepI; simp) (fun W' hb' => (by have e : bitI (decide (atI m.regs kb ≤ atI m.regs kc)) = insV (envOf x kv fq) m ⟨9, (ka : Int), (kb : Int), (kc : Int)⟩ := (by unfold insV; dsimp only; rw [if_neg (by decide), if_neg (by decide), if_neg (by decide), if_neg (by decide), if_neg (by decide), if_neg (by decide), if_neg (by decide), if_neg (by decide), if_neg (by decide)]; unfold binV; rw [if_neg (by decide), if_neg (by decide), if_neg (by decide), if_neg (by decide), if_pos (by decide)]); rw [← e]; exact do_le W' 9 (ka : Int) rb ⟨ga, 0, none⟩ 0 cR m.regs (hR W' hb') (hA W' hb') kb kc hkb hkc))
    · as_aux_lemma => exact put_case w0 fp fn ft fd fl k0 k1 k2 k3 k4 B0 d0 B1 d1 B2 d2 x kv fq s0 s2 g ga len cR fb rb ks ob regs slots m W st hI hT hm ⟨10, (ka : Int), (kb : Int), (kc : Int)⟩ k 9 137 _ (by omega) rfl rfl (enters_of Tryz.func137 (by kernel_rfl) rfl) ⟨ka, rfl, by omega⟩ (by unfold stepI; simp) (fun W' hb' => (by have e : bitI (atI m.regs kb == atI m.regs kc) = insV (envOf x kv fq) m ⟨10, (ka : Int), (kb : Int), (kc : Int)⟩ := (by unfold insV; dsimp only; rw [if_neg (by decide), if_neg (by decide), if_neg (by decide), if_neg (by decide), if_neg (by decide), if_neg (by decide), if_neg (by decide), if_neg (by decide), if_neg (by decide)]; unfold binV; rw [if_neg (by decide), if_neg (by decide), if_neg (by decide), if_neg (by decide), if_neg (by decide), if_pos (by decide)]); rw [← e]; exact do_eq W' 10 (ka : Int) rb ⟨ga, 0, none⟩ 0 cR m.regs (hR W' hb') (hA W' hb') kb kc hkb hkc))
    · as_aux_lemma => exact put_case w0 fp fn ft fd fl k0 k1 k2 k3 k4 B0 d0 B1 d1 B2 d2 x kv fq s0 s2 g ga len cR fb rb ks ob regs slots m W st hI hT hm ⟨11, (ka : Int), (kb : Int), (kc : Int)⟩ k 10 138 _ (by omega) rfl rfl (enters_of Tryz.func138 (by kernel_rfl) rfl) ⟨ka, rfl, by omega⟩ (by unfold stepI; simp) (fun W' hb' => (by have e : min (atI m.regs kb) (atI m.regs kc) = insV (envOf x kv fq) m ⟨11, (ka : Int), (kb : Int), (kc : Int)⟩ := (by show _ = -maxI (-atI m.regs kb) (-atI m.regs kc); unfold maxI; split <;> omega); rw [← e]; exact do_min W' 11 (ka : Int) rb ⟨ga, 0, none⟩ 0 cR m.regs (hR W' hb') (hA W' hb') kb kc hkb hkc))
    · as_aux_lemma => exact put_case w0 fp fn ft fd fl k0 k1 k2 k3 k4 B0 d0 B1 d1 B2 d2 x kv fq s0 s2 g ga len cR fb rb ks ob regs slots m W st hI hT hm ⟨12, (ka : Int), (kb : Int), (kc : Int)⟩ k 11 139 _ (by omega) rfl rfl (enters_of Tryz.func139 (by kernel_rfl) rfl) ⟨ka, rfl, by omega⟩ (by unfold stepI; simp) (fun W' hb' => (by have e : max (atI m.regs kb) (atI m.regs kc) = insV (envOf x kv fq) m ⟨12, (ka : Int), (kb : Int), (kc : Int)⟩ := (by show _ = maxI (atI m.regs kb) (atI m.regs kc); unfold maxI; split <;> omega); rw [← e]; exact do_max W' 12 (ka : Int) rb ⟨ga, 0, none⟩ 0 cR m.regs (hR W' hb') (hA W' hb') kb kc hkb hkc))
  split at hy
  · cases hy
  split at hy
  · rename_i h; subst h
    simp only [Bool.and_eq_true, inB_iff] at hy
    obtain ⟨ka, rfl⟩ := Int.eq_ofNat_of_zero_le (show 0 ≤ a by omega)
    · as_aux_lemma => exact put_case w0 fp fn ft fd fl k0 k1 k2 k3 k4 B0 d0 B1 d1 B2 d2 x kv fq s0 s2 g ga len cR fb rb ks ob regs slots m W st hI hT hm ⟨1, (ka : Int), b, c⟩ k 0 127 _ (by omega) rfl rfl (enters_of Tryz.func127 (by kernel_rfl) rfl) ⟨ka, rfl, by omega⟩ (by unfold stepI; simp) (fun W' hb' => do_const W' 1 (ka : Int) b c)
  split at hy
  · rename_i h
    simp only [Bool.and_eq_true, inB_iff] at hy
    obtain ⟨ka, rfl⟩ := Int.eq_ofNat_of_zero_le (show 0 ≤ a by omega)
    obtain ⟨kb, rfl⟩ := Int.eq_ofNat_of_zero_le (show 0 ≤ b by omega)
    have hkb : kb < m.regs.length := by omega
    rcases h with rfl | rfl | rfl
    · as_aux_lemma => exact put_case w0 fp fn ft fd fl k0 k1 k2 k3 k4 B0 d0 B1 d1 B2 d2 x kv fq s0 s2 g ga len cR fb rb ks ob regs slots m W st hI hT hm ⟨2, (ka : Int), (kb : Int), c⟩ k 1 128 _ (by omega) rfl rfl (enters_of Tryz.func128 (by kernel_rfl) rfl) ⟨ka, rfl, by omega⟩ (by unfold stepI; simp) (fun W' hb' => do_move W' 2 (ka : Int) c rb ⟨ga, 0, none⟩ 0 cR m.regs (hR W' hb') (hA W' hb') kb hkb)
    · as_aux_lemma => exact put_case w0 fp fn ft fd fl k0 k1 k2 k3 k4 B0 d0 B1 d1 B2 d2 x kv fq s0 s2 g ga len cR fb rb ks ob regs slots m W st hI hT hm ⟨3, (ka : Int), (kb : Int), c⟩ k 2 129 _ (by omega) rfl rfl (enters_of Tryz.func129 (by kernel_rfl) rfl) ⟨ka, rfl, by omega⟩ (by unfold stepI; simp) (fun W' hb' => (by have e : clampI (-atI m.regs kb) = insV (envOf x kv fq) m ⟨3, (ka : Int), (kb : Int), c⟩ := clamp_in (by have := hcap kb; omega) (by have := hcap kb; omega); rw [← e]; exact do_neg W' 3 (ka : Int) c rb ⟨ga, 0, none⟩ 0 cR m.regs (hR W' hb') (hA W' hb') kb hkb (hcap _)))
    · as_aux_lemma => exact put_case w0 fp fn ft fd fl k0 k1 k2 k3 k4 B0 d0 B1 d1 B2 d2 x kv fq s0 s2 g ga len cR fb rb ks ob regs slots m W st hI hT hm ⟨4, (ka : Int), (kb : Int), c⟩ k 3 130 _ (by omega) rfl rfl (enters_of Tryz.func130 (by kernel_rfl) rfl) ⟨ka, rfl, by omega⟩ (by unfold stepI; simp) (fun W' hb' => do_not W' 4 (ka : Int) c rb ⟨ga, 0, none⟩ 0 cR m.regs (hR W' hb') (hA W' hb') kb hkb)
  split at hy
  · rename_i h
    simp only [Bool.and_eq_true, inB_iff] at hy
    obtain ⟨ka, rfl⟩ := Int.eq_ofNat_of_zero_le (show 0 ≤ a by omega)
    have ht := hm.t0; have ht1 := hm.t1; have hk0' := hm.k0; have hk1' := hm.k1
    rcases h with rfl | rfl
    · rcases Int.lt_or_le fq 0 with hq | hq
      · as_aux_lemma => exact put_case w0 fp fn ft fd fl k0 k1 k2 k3 k4 B0 d0 B1 d1 B2 d2 x kv fq s0 s2 g ga len cR fb rb ks ob regs slots m W st hI hT hm ⟨13, (ka : Int), b, c⟩ k 12 140 _ (by omega) rfl rfl (enters_of Tryz.func140 (by kernel_rfl) rfl) ⟨ka, rfl, by omega⟩ (by unfold stepI; simp) (fun W' hb' => (by have e : bitI false = insV (envOf x kv fq) m ⟨13, (ka : Int), b, c⟩ := (by show _ = bitI (decide (0 ≤ fq) && _); rw [decide_eq_false (by omega)]; rfl); rw [← e]; exact do_tag0 W' 13 (ka : Int) b c fb g fp fn ft fd fl k0 k1 k2 k3 k4 B0 d0 B1 d1 B2 d2 x kv fq s0 (.slice (some ⟨ga, 0, none⟩) len cR) s2 (brk m.rule) (hF W' hb') (bB hI.fr hb') hq))
      · obtain ⟨kq, hkq⟩ := Int.eq_ofNat_of_zero_le hq
        have hlt : kq < x.qs.length := by have := hm.q1 hq; show kq < _; have : fq < x.qs.length := this; omega
        have het : (envOf x kv fq).tags = (x.qs.getD kq zQ).tags := by unfold envOf; dsimp only; rw [if_neg (by omega), hkq]; rfl
        rw [het] at ht ht1
        · as_aux_lemma => exact put_case w0 fp fn ft fd fl k0 k1 k2 k3 k4 B0 d0 B1 d1 B2 d2 x kv fq s0 s2 g ga len cR fb rb ks ob regs slots m W st hI hT hm ⟨13, (ka : Int), b, c⟩ k 12 140 _ (by omega) rfl rfl (enters_of Tryz.func140 (by kernel_rfl) rfl) ⟨ka, rfl, by omega⟩ (by unfold stepI; simp) (fun W' hb' => (by have e : bitI (tagOf (x.qs.getD kq zQ).tags b) = insV (envOf x kv fq) m ⟨13, (ka : Int), b, c⟩ := (by show _ = bitI (decide (0 ≤ fq) && tagOf (envOf x kv fq).tags b); rw [decide_eq_true hq, het]; rfl); rw [← e]; exact do_tag1 W' 13 (ka : Int) b c fb g fp fn ft fd fl k0 k1 k2 k3 k4 B0 d0 B1 d1 B2 d2 x kv fq s0 (.slice (some ⟨ga, 0, none⟩) len cR) s2 (brk m.rule) (hF W' hb') (bB hI.fr hb') kq hkq hlt (Kd.C_below hQ (bC hI.bel hb')) hy.2.1 hy.2.2 ht ht1))
    · as_aux_lemma => exact put_case w0 fp fn ft fd fl k0 k1 k2 k3 k4 B0 d0 B1 d1 B2 d2 x kv fq s0 s2 g ga len cR fb rb ks ob regs slots m W st hI hT hm ⟨14, (ka : Int), b, c⟩ k 13 141 _ (by omega) rfl rfl (enters_of Tryz.func141 (by kernel_rfl) rfl) ⟨ka, rfl, by omega⟩ (by unfold stepI; simp) (fun W' hb' => do_skill W' 14 (ka : Int) b c fb g fp fn ft fd fl k0 k1 k2 k3 k4 B0 d0 B1 d1 B2 d2 x kv fq s0 (.slice (some ⟨ga, 0, none⟩) len cR) s2 (brk m.rule) (hF W' hb') (bB hI.fr hb') kv rfl hkv (Kd.C_below hV (bC hI.bel hb')) hy.2.1 hy.2.2 hk0' hk1')
  split at hy
  · rename_i h
    simp only [Bool.and_eq_true, inB_iff] at hy
    obtain ⟨ka, rfl⟩ := Int.eq_ofNat_of_zero_le (show 0 ≤ a by omega)
    have hka : ka < m.regs.length := by omega
    rcases h with rfl | rfl
    · by_cases hz : atI m.regs ka = 0
      · have hst : stepI (envOf x kv fq) k m ⟨15, (ka : Int), b, c⟩ = (b.toNat, m) := by unfold stepI; simp [hz]
        as_aux_lemma => exact pure_case w0 fp fn ft fd fl k0 k1 k2 k3 k4 B0 d0 B1 d1 B2 d2 x kv fq s0 s2 g ga len cR fb rb ks ob regs slots m W st hI hT hm ⟨15, (ka : Int), b, c⟩ k 143 _ rfl (enters_of Tryz.func143 (by kernel_rfl) rfl) (b) (by rw [hst, if_neg (by omega)]; show b = ((b.toNat : Nat) : Int); omega) (by rw [hst]) (do_jz0 W 15 b c rb ⟨ga, 0, none⟩ cR m.regs (hR W (Below.refl _ _)) (hA W (Below.refl _ _)) ka hka hz)
      · have hst : stepI (envOf x kv fq) k m ⟨15, (ka : Int), b, c⟩ = (k + 1, m) := by unfold stepI; simp [hz]
        as_aux_lemma => exact pure_case w0 fp fn ft fd fl k0 k1 k2 k3 k4 B0 d0 B1 d1 B2 d2 x kv fq s0 s2 g ga len cR fb rb ks ob regs slots m W st hI hT hm ⟨15, (ka : Int), b, c⟩ k 143 _ rfl (enters_of Tryz.func143 (by kernel_rfl) rfl) (-1) (by rw [hst]; simp) (by rw [hst]) (do_jz1 W 15 b c rb ⟨ga, 0, none⟩ cR m.regs (hR W (Below.refl _ _)) (hA W (Below.refl _ _)) ka hka hz)
    · by_cases hz : atI m.regs ka = 0
      · have hst : stepI (envOf x kv fq) k m ⟨16, (ka : Int), b, c⟩ = (k + 1, m) := by unfold stepI; simp [hz]
        as_aux_lemma => exact pure_case w0 fp fn ft fd fl k0 k1 k2 k3 k4 B0 d0 B1 d1 B2 d2 x kv fq s0 s2 g ga len cR fb rb ks ob regs slots m W st hI hT hm ⟨16, (ka : Int), b, c⟩ k 144 _ rfl (enters_of Tryz.func144 (by kernel_rfl) rfl) (-1) (by rw [hst]; simp) (by rw [hst]) (do_jnz0 W 16 b c rb ⟨ga, 0, none⟩ cR m.regs (hR W (Below.refl _ _)) (hA W (Below.refl _ _)) ka hka hz)
      · have hst : stepI (envOf x kv fq) k m ⟨16, (ka : Int), b, c⟩ = (b.toNat, m) := by unfold stepI; simp [hz]
        as_aux_lemma => exact pure_case w0 fp fn ft fd fl k0 k1 k2 k3 k4 B0 d0 B1 d1 B2 d2 x kv fq s0 s2 g ga len cR fb rb ks ob regs slots m W st hI hT hm ⟨16, (ka : Int), b, c⟩ k 144 _ rfl (enters_of Tryz.func144 (by kernel_rfl) rfl) (b) (by rw [hst, if_neg (by omega)]; show b = ((b.toNat : Nat) : Int); omega) (by rw [hst]) (do_jnz1 W 16 b c rb ⟨ga, 0, none⟩ cR m.regs (hR W (Below.refl _ _)) (hA W (Below.refl _ _)) ka hka hz)
  split at hy
  · rename_i h; subst h
    simp only [Bool.and_eq_true, inB_iff, decide_eq_true_eq] at hy
    have hst : stepI (envOf x kv fq) k m ⟨17, a, b, c⟩ = (b.toNat, m) := rfl
    as_aux_lemma => exact pure_case w0 fp fn ft fd fl k0 k1 k2 k3 k4 B0 d0 B1 d1 B2 d2 x kv fq s0 s2 g ga len cR fb rb ks ob regs slots m W st hI hT hm ⟨17, a, b, c⟩ k 145 _ rfl (enters_of Tryz.func145 (by kernel_rfl) rfl) (b) (by rw [hst, if_neg (by omega)]; show b = ((b.toNat : Nat) : Int); omega) (by rw [hst]) (do_jump W 17 a b c)
  split at hy
  · rename_i h; subst h
    simp only [Bool.and_eq_true, inB_iff] at hy
    obtain ⟨ka, rfl⟩ := Int.eq_ofNat_of_zero_le (show 0 ≤ a by omega)
    have hka : ka < m.regs.length := by omega
    by_cases hz : atI m.regs ka = 0
    · have hst : stepI (envOf x kv fq) k m ⟨18, (ka : Int), b, c⟩ = (16384, { m with rule := b }) := by unfold stepI; simp [hz]
      refine ⟨146, _, rfl, enters_of Tryz.func146 (by kernel_rfl) rfl, ?_⟩
      rw [hst]
      refine (impl_check0 W 18 b c rb fb g ⟨ga, 0, none⟩ cR m.regs (hR W (Below.refl _ _)) (hA W (Below.refl _ _)) ka hka hz (hF W (Below.refl _ _)) _ hI.fr rfl).mono ?_
      rintro e w' ⟨rfl, h1, h2⟩
      have hkeep : ∀ k v xs, kInt.R 2 W w0.heap.size (fun _ => True) v xs → v.ownBlock = some k → k < W.heap.size → w'.heap[k]? = W.heap[k]? := fun k v xs hr hk hl => h2.same k hl (fun e => by
        obtain ⟨cells, hcl⟩ := own_blk hr hk
        exact blk_ne hcl hI.fr (by decide) e)
      refine ⟨16384, rfl, rfl, ⟨h2.below w0 (fun k hk => by rw [hk]; exact hI.gw) hI.bel, hI.gw, hI.aw, hln, ?_, int_keep hI.r1 fun k hk hl => hkeep k _ _ hI.r1 hk hl, int_keep hI.r2 fun k hk hl => hkeep k _ _ hI.r2 hk hl, hI.ne, int_keep hI.r0 fun k hk hl => hkeep k _ _ hI.r0 hk hl, hI.ne0, hI.ne2⟩, hT.tch h2 hI.fr (by decide) (by decide) (by decide) (by decide)⟩
      rw [h1, hrule]
      show some (Obj.cells ((frameC fp fn ft fd fl k0 k1 k2 k3 k4 _ _ _ kv fq s0 _ s2 0).setIfInBounds 18 (.int .i64 b)) _ _) = some (Obj.cells (frameC fp fn ft fd fl k0 k1 k2 k3 k4 _ _ _ kv fq s0 _ s2 (brk b)) _ _)
      rw [show brk b = b from if_neg (by omega)]
      rfl
    · have hst : stepI (envOf x kv fq) k m ⟨18, (ka : Int), b, c⟩ = (k + 1, m) := by unfold stepI; simp [hz]
      as_aux_lemma => exact pure_case w0 fp fn ft fd fl k0 k1 k2 k3 k4 B0 d0 B1 d1 B2 d2 x kv fq s0 s2 g ga len cR fb rb ks ob regs slots m W st hI hT hm ⟨18, (ka : Int), b, c⟩ k 146 _ rfl (enters_of Tryz.func146 (by kernel_rfl) rfl) (-1) (by rw [hst]; simp) (by rw [hst]) (impl_check1 W 18 b c rb fb ⟨ga, 0, none⟩ cR m.regs (hR W (Below.refl _ _)) (hA W (Below.refl _ _)) ka hka hz)
  have hsl : (m.slots.length : Int) ≤ 1638400 := by rw [hm.sl]; exact (mul_bd' (A := 100) (B := 16384) hs0 hs hm.r0 hm.r1).2
  have hreq : (envOf x kv fq).reqs = x.qs.length := rfl
  split at hy
  · rename_i h; subst h
    simp only [Bool.and_eq_true, inB_iff] at hy
    obtain ⟨kb, rfl⟩ := Int.eq_ofNat_of_zero_le (show 0 ≤ b by omega)
    have hkb : kb < m.regs.length := by omega
    rcases Int.lt_or_le fq 0 with hq | hq
    · have hst : stepI (envOf x kv fq) k m ⟨19, a, (kb : Int), c⟩ = (k + 1, m) := by unfold stepI; simp; intro h; exact absurd h (show ¬0 ≤ fq by omega)
      as_aux_lemma => exact pure_case w0 fp fn ft fd fl k0 k1 k2 k3 k4 B0 d0 B1 d1 B2 d2 x kv fq s0 s2 g ga len cR fb rb ks ob regs slots m W st hI hT hm ⟨19, a, (kb : Int), c⟩ k 147 _ rfl (enters_of Tryz.func147 (by kernel_rfl) rfl) (-1) (by rw [hst]; simp) (by rw [hst]) (impl_save0 W 19 a (kb : Int) c rb fb g fp fn ft fd fl k0 k1 k2 k3 k4 B0 d0 B1 d1 B2 d2 x kv fq s0 (.slice (some ⟨ga, 0, none⟩) len cR) s2 (brk m.rule) (hF W (Below.refl _ _)) hI.fr hq)
    · have hst : stepI (envOf x kv fq) k m ⟨19, a, (kb : Int), c⟩ = (k + 1, { m with slots := putI m.slots (a * x.qs.length + fq) (atI m.regs kb) }) := by unfold stepI; simp; rw [if_neg (show ¬(envOf x kv fq).q < 0 from by show ¬fq < 0; omega)]; rfl
      obtain ⟨e0, e1, e2⟩ := slot_in hy.1.1 hy.1.2 hs hq (hm.q1 hq) hm.r1
      have hsll := hm.sl
      rw [hreq] at e0 e1 e2 hsll
      obtain ⟨kss, hks⟩ := Int.eq_ofNat_of_zero_le (show 0 ≤ a * x.qs.length + fq by have : fq = (envOf x kv fq).q := rfl; omega)
      have hkl : kss < m.slots.length := by have : fq = (envOf x kv fq).q := rfl; omega
      obtain ⟨gs, cs, rfl, hgs, _, cells, hcl⟩ := Kd.R_form hI.r2 (by omega)
      have hnegs : gs ≠ ga := fun e => hI.ne (by rw [e]; rfl)
      refine ⟨147, _, rfl, enters_of Tryz.func147 (by kernel_rfl) rfl, ?_⟩
      rw [hst]
      refine (impl_save1 W w0 19 a c rb gs cs m.slots fb g fp fn ft fd fl k0 k1 k2 k3 k4 B0 d0 B1 d1 B2 d2 x kv fq s0 (.slice (some ⟨ga, 0, none⟩) len cR) (brk m.rule) (hF W (Below.refl _ _)) hI.fr ⟨ga, 0, none⟩ cR m.regs (hR W (Below.refl _ _)) (hA W (Below.refl _ _)) kb hkb hq hI.r2 hI.bel kss hks hkl e0 (by omega) (by omega)).mono ?_
      rintro e w' ⟨rfl, h1, h2, h3⟩
      obtain ⟨cells1, hga⟩ := row_blk hI.r1 (by omega)
      refine ⟨-1, rfl, by simp, ⟨h2, hI.gw, hI.aw, hln, (h3.same g (blk_lt hI.fr) (blk_ne hI.fr hcl (by decide))).trans hI.fr, int_keep hI.r1 fun k hk hl => h3.same k hl (fun e => hnegs (by have : some ga = some k := hk; injection this with this; omega)), ?_, hI.ne, int_keep hI.r0 fun k hk hl => h3.same k hl (fun e => hI.ne2 k hk (by show some gs = some k; rw [e])), hI.ne0, hI.ne2⟩, hT.tch h3 hcl (by decide) (by decide) (by decide) (by decide)⟩
      rw [hks]; unfold putI; rw [Int.toNat_natCast]; exact h1
  split at hy
  · rename_i h; subst h
    simp only [Bool.and_eq_true, inB_iff] at hy
    obtain ⟨ka, rfl⟩ := Int.eq_ofNat_of_zero_le (show 0 ≤ a by omega)
    rcases Int.lt_or_le fq 0 with hq | hq
    · as_aux_lemma => exact put_case w0 fp fn ft fd fl k0 k1 k2 k3 k4 B0 d0 B1 d1 B2 d2 x kv fq s0 s2 g ga len cR fb rb ks ob regs slots m W st hI hT hm ⟨20, (ka : Int), b, c⟩ k 14 142 _ (by omega) rfl rfl (enters_of Tryz.func142 (by kernel_rfl) rfl) ⟨ka, rfl, by omega⟩ (by unfold stepI; simp) (fun W' hb' => (by have e : 0 = insV (envOf x kv fq) m ⟨20, (ka : Int), b, c⟩ := (by show _ = (if fq < 0 then 0 else _); rw [if_pos hq]); rw [← e]; exact do_load0 W' 20 (ka : Int) b c fb g fp fn ft fd fl k0 k1 k2 k3 k4 B0 d0 B1 d1 B2 d2 x kv fq s0 (.slice (some ⟨ga, 0, none⟩) len cR) s2 (brk m.rule) (hF W' hb') (bB hI.fr hb') hq))
    · obtain ⟨e0, e1, e2⟩ := slot_in hy.2.1 hy.2.2 hs hq (hm.q1 hq) hm.r1
      have hsll := hm.sl
      rw [hreq] at e0 e1 e2 hsll
      obtain ⟨kss, hks⟩ := Int.eq_ofNat_of_zero_le (show 0 ≤ b * x.qs.length + fq by have : fq = (envOf x kv fq).q := rfl; omega)
      have hkl : kss < m.slots.length := by have : fq = (envOf x kv fq).q := rfl; omega
      obtain ⟨As, cs, rfl, _, hcs⟩ := Kd.R_reads hI.r2
      as_aux_lemma => exact put_case w0 fp fn ft fd fl k0 k1 k2 k3 k4 B0 d0 B1 d1 B2 d2 x kv fq s0 (.slice As m.slots.length cs) g ga len cR fb rb ks ob regs slots m W st hI hT hm ⟨20, (ka : Int), b, c⟩ k 14 142 _ (by omega) rfl rfl (enters_of Tryz.func142 (by kernel_rfl) rfl) ⟨ka, rfl, by omega⟩ (by unfold stepI; simp) (fun W' hb' => (by have e : atI m.slots kss = insV (envOf x kv fq) m ⟨20, (ka : Int), b, c⟩ := (by show _ = (if fq < 0 then 0 else atI m.slots (b * x.qs.length + fq)); rw [if_neg (by omega), hks]); rw [← e]; exact do_load1 W' 20 (ka : Int) b c As cs m.slots fb g fp fn ft fd fl k0 k1 k2 k3 k4 B0 d0 B1 d1 B2 d2 x kv fq s0 (.slice (some ⟨ga, 0, none⟩) len cR) (brk m.rule) (hF W' hb') (bB hI.fr hb') hq (Kd.C_below hcs hb') kss hks hkl e0 (by omega) (by omega)))
  · cases hy
end
end Go.Proofs.YtlhpbpkefkabgaaGreat.L1
