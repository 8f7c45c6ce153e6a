/- A block of code run, as the program tells it. Rows and blocks behind a write elsewhere; a row of numbers copied over another. A region whose order is open, by what each slot holds once its operation is done: one function of what is done. -/
import Derived.Test.YtlhpbpkefkabgaaGreatQS22
import Derived.Laws.CopyOwn
import Derived.Test.YtlhpbpkefkabgaaGreatQS6
namespace Go.Proofs.YtlhpbpkefkabgaaGreat.L1
open Go.RowKit Go.Proofs.YtlhpbpkefkabgaaGreatW.PrintWords Go.Proofs.YtlhpbpkefkabgaaGreat.B
set_option linter.unusedVariables false
set_option linter.unusedSimpArgs false
attribute [local go_sem] mk_cell mk_frozen
theorem exec_rule {E : Env} {b : List Ins} {regs slots : Int} (hb : blockOk regs slots b = true) : ∀ (f k : Nat) (m : Mem), m.rule = -1 → (exec E b f k m).rule = -1 ∨ (1 ≤ (exec E b f k m).rule ∧ (exec E b f k m).rule ≤ 100)
  | 0, k, m, h => .inl h
  | f + 1, k, m, h => by
    rcases Nat.lt_or_ge k b.length with hk | hk
    rotate_left
    · rw [exec_end hk]; exact .inl h
    rw [exec_step hk]
    have hok := blockOk_at hb hk
    have hmb := blockOk_len hb
    generalize b.getD k zIns = x at *
    by_cases h18 : x.op = 18 ∧ atI m.regs x.a = 0
    · have hst : stepI E k m x = (16384, { m with rule := x.b }) := by unfold stepI; rw [if_neg (by omega), if_neg (by omega), if_neg (by omega), if_pos h18.1, if_pos h18.2]
      rw [hst, exec_end hmb]
      unfold insOk at hok
      simp [h18.1, inB_iff] at hok
      exact .inr ⟨by show 1 ≤ x.b; omega, by show x.b ≤ 100; omega⟩
    · have hr : (stepI E k m x).2.rule = -1 := by
        unfold stepI
        split
        · exact h
        split
        · exact h
        split
        · exact h
        split
        · rename_i h1; rw [if_neg (fun h2 => h18 ⟨h1, h2⟩)]; exact h
        split
        · show (if E.q < 0 then m else _).rule = -1; split <;> exact h
        · exact h
      exact exec_rule hb f _ _ hr
theorem stepI_rule {E : Env} {k : Nat} {m : Mem} {x : Ins} (h : m.rule = -1) : (stepI E k m x).2.rule = -1 ∨ (stepI E k m x).1 = 16384 := by
  unfold stepI
  split
  · exact .inl h
  split
  · exact .inl h
  split
  · exact .inl h
  split
  · split
    · exact .inr rfl
    · exact .inl h
  split
  · left; show (if E.q < 0 then m else _).rule = -1; split <;> exact h
  · exact .inl h
theorem stepI_le {E : Env} {k n : Nat} {m : Mem} {y : Ins} {regs slots : Int} (hx : insOk y.op y.a y.b y.c regs slots k n = true) (hn : n ≤ 16384) (hk : k < n) : (stepI E k m y).1 ≤ 16384 := by
  have hb : (y.op = 15 ∨ y.op = 16 ∨ y.op = 17) → y.b.toNat ≤ 16384 := fun h => Int.toNat_le.2 (by
    unfold insOk at hx
    rcases h with h | h | h <;> simp [h, inB_iff] at hx <;> omega)
  unfold stepI
  split
  · rename_i h; exact hb (.inr (.inr h))
  split
  · rename_i h; have h1 := hb (.inl h); show (if _ then y.b.toNat else k + 1) ≤ 16384; split; exact h1; exact Nat.lt_of_lt_of_le hk hn
  split
  · rename_i h; have h1 := hb (.inr (.inl h)); show (if _ then k + 1 else y.b.toNat) ≤ 16384; split; exact Nat.lt_of_lt_of_le hk hn; exact h1
  split
  · split
    · exact Nat.le_refl _
    · exact Nat.lt_of_lt_of_le hk hn
  split <;> exact Nat.lt_of_lt_of_le hk hn
section
variable (w : World)
set_option maxRecDepth 100000 in
set_option maxHeartbeats 8000000 in
theorem impl_run (w0 : World) (fp fn ft fd fl : Int) (k0 k1 k2 k3 k4 : Value) (B0 : Option Addr) (d0 : Nat) (B1 : Option Addr) (d1 : Nat) (B2 : Option Addr) (d2 : Nat) (x : Inst) (kv : Nat) (fq : Int) (s0 s2 : Value) (g ga len cR : Nat) (regs slots : Int) (m : Mem) (st : List Int) (hI : MInv w0 (fun br => frameC fp fn ft fd fl k0 k1 k2 k3 k4 (.slice B0 x.vs.length d0) (.slice B1 x.qs.length d1) (.slice B2 x.rs.length d2) kv fq s0 (.slice (some ⟨ga, 0, none⟩) len cR) s2 br) g ga len cR s2 s0 st w m) (hm : Mok (envOf x kv fq) regs slots m) (hV : kVeh.C w0 B0 x.vs.length x.vs) (hQ : kReq.C w0 B1 x.qs.length x.qs) (hxv : x.valid = true) (hkv : kv < x.vs.length) (hs0 : 0 ≤ slots) (hs : slots ≤ 100) (hrule : m.rule = -1) (hr13 : 13 ≤ regs)
    (B : Option Addr) (bc : Nat) (b : List Ins) (hK : kIns.C w0 B b.length b) (hb : blockOk regs slots b = true) :
    Calls Tryz.prog 69 #[.pointer (some ⟨g, 0, none⟩), .slice B b.length bc] w fun e w' => e = .returned (.tuple #[]) ∧ MInv w0 (fun br => frameC fp fn ft fd fl k0 k1 k2 k3 k4 (.slice B0 x.vs.length d0) (.slice B1 x.qs.length d1) (.slice B2 x.rs.length d2) kv fq s0 (.slice (some ⟨ga, 0, none⟩) len cR) s2 br) g ga len cR s2 s0 st w' (runB (envOf x kv fq) b m) := by
  have hmb := blockOk_len hb
  have HI := sA hI; have HM := sA hm; have HV := sA hV; have HQ := sA hQ; have HK := sA hK; have HBO := sA hb; have HXV := sA hxv; have HRU := sA hrule
  have hlt : 0 < len := by have := hm.rl; have := hI.ln; omega
  have ho := impl_operations w g ga len cR (by rw [blk_cell hI.fr 16]; rfl)
  clear hI hm hV hQ hK hb hrule
  go_enter Tryz.func69, Tryz.ntmps69
  go_wp2_with fail
  refine ho.mono ?_
  rintro e w1 ⟨fb, rb, ks, rfl, hb1, hf1, hr1, hd1⟩
  clear ho
  have HI1 := sA (show MInv w0 (fun br => frameC fp fn ft fd fl k0 k1 k2 k3 k4 (.slice B0 x.vs.length d0) (.slice B1 x.qs.length d1) (.slice B2 x.rs.length d2) kv fq s0 (.slice (some ⟨ga, 0, none⟩) len cR) s2 br) g ga len cR s2 s0 st w1 m from ⟨bC HI.out.bel hb1, HI.out.gw, HI.out.aw, HI.out.ln, bB HI.out.fr hb1, Kd.R_below HI.out.r1 hb1, Kd.R_below HI.out.r2 hb1, HI.out.ne, Kd.R_below HI.out.r0 hb1, HI.out.ne0, HI.out.ne2⟩)
  have HTB := sA (And.intro hf1 (And.intro hr1 hd1))
  clear hb1 hf1 hr1 hd1
  go_wp2_with ((with_reducible refine gate_store (t := 150) (p := 4) rfl ?_); refine wpList_putAll rfl rfl _ _ _ rfl (g := w1.heap.size) (opsA fb rb ks).toList rfl rfl (by kernel_rfl) (List.all_eq_true.1 (show List.all (opsA fb rb ks).toList Value.oneCell' = true from rfl)) (al_new w1 (.cells #[.nilFunc, .nilFunc, .nilFunc, .nilFunc, .nilFunc, .nilFunc, .nilFunc, .nilFunc, .nilFunc, .nilFunc, .nilFunc, .nilFunc, .nilFunc, .nilFunc, .nilFunc, .nilFunc, .nilFunc, .nilFunc, .nilFunc, .nilFunc, .nilFunc] 150)) rfl ?_; intro w2 hf htf _; have HFF := sA hf; have HTF := sA htf; clear hf htf)
  have HBX := sA (bA (Below.refl w1.heap.size w1) (.cells #[.nilFunc, .nilFunc, .nilFunc, .nilFunc, .nilFunc, .nilFunc, .nilFunc, .nilFunc, .nilFunc, .nilFunc, .nilFunc, .nilFunc, .nilFunc, .nilFunc, .nilFunc, .nilFunc, .nilFunc, .nilFunc, .nilFunc, .nilFunc, .nilFunc] 150))
  have HSZ := sA (show (w1.alloc (.cells #[.nilFunc, .nilFunc, .nilFunc, .nilFunc, .nilFunc, .nilFunc, .nilFunc, .nilFunc, .nilFunc, .nilFunc, .nilFunc, .nilFunc, .nilFunc, .nilFunc, .nilFunc, .nilFunc, .nilFunc, .nilFunc, .nilFunc, .nilFunc, .nilFunc] 150)).heap.size = w1.heap.size + 1 by simp only [al_size])
  have hkeep : ∀ k o, w1.heap[k]? = some o → w2.heap[k]? = some o := fun k o h => (HTF.out.same k (by have := blk_lt h; rw [HSZ.out]; omega) (by have := blk_lt h; show ¬k = w1.heap.size; omega)).trans (blk_box h _)
  have HB2 : Below w1.heap.size w1 w2 := HTF.out.below w1 (fun k hk => by rw [hk]; exact Nat.le_refl _) HBX.out
  have HT := sA (show Tab w2 fb rb ks g ga len cR w1.heap.size from ⟨by simpa using HFF.out, hkeep _ _ HTB.out.1, hkeep _ _ HTB.out.2.1, fun j hj => hkeep _ _ (HTB.out.2.2 j hj)⟩)
  have HI2 := sA (show MInv w0 (fun br => frameC fp fn ft fd fl k0 k1 k2 k3 k4 (.slice B0 x.vs.length d0) (.slice B1 x.qs.length d1) (.slice B2 x.rs.length d2) kv fq s0 (.slice (some ⟨ga, 0, none⟩) len cR) s2 br) g ga len cR s2 s0 st w2 m from ⟨bC HI1.out.bel HB2, HI1.out.gw, HI1.out.aw, HI1.out.ln, bB HI1.out.fr HB2, Kd.R_below HI1.out.r1 HB2, Kd.R_below HI1.out.r2 HB2, HI1.out.ne, Kd.R_below HI1.out.r0 HB2, HI1.out.ne0, HI1.out.ne2⟩)
  generalize w1.heap.size = ob at *
  clear HTB HFF HTF HBX HSZ hkeep HB2 HI1 HI
  go_loopg [5, 6] 40000 (fun q v5 v6 wr => ∃ k f m', q = 40000 - k ∧ k ≤ 20000 ∧ v5 = .int .i64 k ∧ Aside0 (b.length - k ≤ f) ∧ Aside0 (exec (envOf x kv fq) b f k m' = runB (envOf x kv fq) b m) ∧ Aside0 (MInv w0 (fun br => frameC fp fn ft fd fl k0 k1 k2 k3 k4 (.slice B0 x.vs.length d0) (.slice B1 x.qs.length d1) (.slice B2 x.rs.length d2) kv fq s0 (.slice (some ⟨ga, 0, none⟩) len cR) s2 br) g ga len cR s2 s0 st wr m') ∧ Aside0 (Tab wr fb rb ks g ga len cR ob) ∧ Aside0 (Mok (envOf x kv fq) regs slots m') ∧ Aside0 (m'.rule = -1 ∨ b.length ≤ k))
  case atStart => exact ⟨0, b.length, m, by omega, by omega, rfl, ⟨by omega⟩, ⟨rfl⟩, HI2, HT, HM, ⟨.inl HRU.out⟩⟩
  case round =>
    rename World => wz
    obtain ⟨k, f, m', rfl, hk, rfl, HF, HE, HIk, HTk, HMk, HRk⟩ := hrel
    clear HI2 HT HM HRU
    by_cases hlt : k < b.length
    · have hru : m'.rule = -1 := by rcases HRk.out with h | h; exact h; omega
      have hok := blockOk_at HBO.out hlt
      obtain ⟨f, rfl⟩ : ∃ f', f = f' + 1 := ⟨f - 1, by have := HF.out; omega⟩
      have he := HE.out
      rw [exec_step hlt] at he
      obtain ⟨ad, e0, t0, t1⟩ := Kd.flat_cells (d := kIns) rfl (Kd.C_below HK.out HIk.out.bel) zIns k hlt
      generalize b.getD k zIns = y at *
      have HOK := sA hok; have HE1 := sA he; have HRK := sA hru
      have hnx := stepI_next (E := envOf x kv fq) (m := m') hok hlt hmb
      have hop : 1 ≤ y.op ∧ y.op ≤ 20 := by
        unfold insOk at hok
        repeat' split at hok
        all_goals first | (cases hok; done) | omega
      have hop0 : (0 : Int) ≤ y.op := by omega
      have hop1 : y.op < 21 := by omega
      cases e0
      have Y0 := sA (t0 _ rfl); have Y1 := sA (t1 0 _ rfl); have Y2 := sA (t1 1 _ rfl); have Y3 := sA (t1 2 _ rfl)
      clear t0 t1
      have hoc := op_call w0 fp fn ft fd fl k0 k1 k2 k3 k4 B0 d0 B1 d1 B2 d2 x kv fq s0 s2 g ga len cR fb rb ks ob regs slots m' wz st HIk.out HTk.out HMk.out y k HV.out HQ.out HXV.out hkv hs0 hs b.length hok hlt hmb hru
      obtain ⟨i, caps, hent, eg, _⟩ := hoc
      have HCALL := sA (show ∀ W : World, Below wz.heap.size wz W → Calls Tryz.prog i (#[.agg #[.int .i64 y.op, .int .i64 y.a, .int .i64 y.b, .int .i64 y.c]] ++ caps) W fun e w' => ∃ nx : Int, e = .returned (.int .i64 nx) ∧ (if nx < 0 then (k : Int) + 1 else nx) = ((stepI (envOf x kv fq) k m' y).1 : Int) ∧ MInv w0 (fun br => frameC fp fn ft fd fl k0 k1 k2 k3 k4 (.slice B0 x.vs.length d0) (.slice B1 x.qs.length d1) (.slice B2 x.rs.length d2) kv fq s0 (.slice (some ⟨ga, 0, none⟩) len cR) s2 br) g ga len cR s2 s0 st w' (stepI (envOf x kv fq) k m' y).2 ∧ Tab w' fb rb ks g ga len cR ob from fun W hb => by
        have hiW : MInv w0 (fun br => frameC fp fn ft fd fl k0 k1 k2 k3 k4 (.slice B0 x.vs.length d0) (.slice B1 x.qs.length d1) (.slice B2 x.rs.length d2) kv fq s0 (.slice (some ⟨ga, 0, none⟩) len cR) s2 br) g ga len cR s2 s0 st W m' := ⟨bC HIk.out.bel hb, HIk.out.gw, HIk.out.aw, HIk.out.ln, bB HIk.out.fr hb, Kd.R_below HIk.out.r1 hb, Kd.R_below HIk.out.r2 hb, HIk.out.ne, Kd.R_below HIk.out.r0 hb, HIk.out.ne0, HIk.out.ne2⟩
        obtain ⟨i', caps', hent', _, h⟩ := op_call w0 fp fn ft fd fl k0 k1 k2 k3 k4 B0 d0 B1 d1 B2 d2 x kv fq s0 s2 g ga len cR fb rb ks ob regs slots m' W st hiW (HTk.out.below hb) HMk.out y k HV.out HQ.out HXV.out hkv hs0 hs b.length hok hlt hmb hru
        rw [hent] at hent'
        injection hent' with h1; injection h1 with h1 _ h3; injection h1 with h1
        rw [h1, h3]; exact h)
      have HENT := sA (show ∀ W : World, Below wz.heap.size wz W → W.cell? ⟨ob, y.op.toNat, none⟩ = some (.func (.func i) #[] caps) from fun W hb => by rw [blk_cell (bB HTk.out.o hb) y.op.toNat, hent])
      have HNX := sA (show (stepI (envOf x kv fq) k m' y).1 ≤ 16384 from stepI_le hok hmb hlt)
      have HNX1 := sA hnx
      have HMk1 := sA (stepI_ok HMk.out hok); have HRk1 := sA (stepI_rule (E := envOf x kv fq) (k := k) (x := y) hru)
      clear hent hok he hnx hru hop
      go_wp2_with fail
      refine Grow.wp_region_tail 11 (by kernel_rfl) (by kernel_rfl) ?_
      simp only [List.take_succ_cons, List.take_zero, List.drop_succ_cons, List.drop_zero]
      repeat (refine Grow.lexP_do _ (by rfl) (by rfl) (by intro W hj; have cy0 := pC hj.out Y0.out; have cy1 := pC hj.out Y1.out; have cy2 := pC hj.out Y2.out; have cy3 := pC hj.out Y3.out; have ce := HENT.out W hj.out; go_simp; exact Grow.UponB.val) ?_; refine Grow.lexP_norm (fun K hK => ?_); go_simp; refine hK _ ?_; clear hK K)
      refine Grow.lexP_nil (fun w3 hj => ?_)
      have hc := HCALL.out w3 hj.out
      clear hj
      go_wp2_with fail
      refine hc.mono ?_
      clear hc eg
      rintro e w4 ⟨nx, rfl, h1, h2, h3⟩
      have HI4 := sA h2; have HT4 := sA h3; clear h2 h3
      have HE4 := HE1; have HM4 := HMk1; have HR4 := HRk1; have HX4 := HNX; have HX5 := HNX1
      clear HE1 HMk1 HRk1 HNX HNX1 HE HIk HTk HMk HRk HCALL HENT
      generalize stepI (envOf x kv fq) k m' y = st at h1 HE4 HI4 HM4 HR4 HX4 HX5
      obtain ⟨kn, m4⟩ := st
      dsimp only at h1 HE4 HI4 HM4 HR4 HX4 HX5
      have HF4 := sA (show b.length - kn ≤ f by have := HF.out; have := HX5.out; omega); clear HF
      have HR5 := sA (show m4.rule = -1 ∨ b.length ≤ kn by rcases HR4.out with h | h; exact .inl h; exact .inr (by rw [h]; exact hmb)); clear HR4
      by_cases hneg : nx < 0
      · rw [if_pos hneg] at h1
        have p0 : decide (nx < 0) = true := decide_eq_true hneg
        have q1 : IntKind.i64.wrap ((k : Int) + 1) = (kn : Int) := by rw [h1]; exact IntWalk.i64_in _ (by have := HX4.out; omega)
        clear hneg h1
        go_wp2
        go_roundg (40000 - kn)
        case measure => have := HX5.out; have := HX4.out; omega
        case rel => exact ⟨kn, f, m4, rfl, by have := HX4.out; omega, by go_num, HF4, HE4, HI4, HT4, HM4, HR5⟩
      · rw [if_neg hneg] at h1
        subst h1
        have p0 : decide ((kn : Int) < 0) = false := decide_eq_false hneg
        clear hneg
        go_wp2
        go_roundg (40000 - kn)
        case measure => have := HX5.out; have := HX4.out; omega
        case rel => exact ⟨kn, f, m4, rfl, by have := HX4.out; omega, by go_num, HF4, HE4, HI4, HT4, HM4, HR5⟩
    · have hx : exec (envOf x kv fq) b f k m' = m' := exec_end (by omega)
      have HX := sA (show m' = runB (envOf x kv fq) b m from hx.symm.trans HE.out)
      go_wp2
      refine bodyPost_end (v := .tuple #[]) (by simp [results, Tryz.results69, go_sem]) rfl ⟨rfl, ?_⟩
      rw [← HX.out]; exact HIk.out
end
end Go.Proofs.YtlhpbpkefkabgaaGreat.L1
namespace Go.Proofs.YtlhpbpkefkabgaaGreat.L1
open Go.RowKit Go.Proofs.YtlhpbpkefkabgaaGreatW.PrintWords Go.Proofs.YtlhpbpkefkabgaaGreat.B
set_option linter.unusedVariables false
theorem tK {W W' : World} {b k : Nat} {cs ck : Array Value} {T Tk : TypeId} (ht : Tch (fun k => k = b) W W') (hb : W.heap[b]? = some (.cells cs T (0, 0))) (hx : W.heap[k]? = some (.cells ck Tk (0, 0))) (hne : Tk ≠ T) : W'.heap[k]? = some (.cells ck Tk (0, 0)) :=
  (ht.same k (blk_lt hx) (blk_ne hx hb hne)).trans hx
theorem row_tch {e base : Nat} {W W' : World} {b : Nat} {cs : Array Value} {T : TypeId} {v : Value} {xs : List Int} (h : kInt.R e W base (fun _ => True) v xs) (ht : Tch (fun k => k = b) W W') (hb : W.heap[b]? = some (.cells cs T (0, 0))) (hne : e ≠ T) : kInt.R e W' base (fun _ => True) v xs :=
  int_keep h fun k hk hl => ht.same k hl fun e' => by obtain ⟨cells, hc⟩ := own_blk h hk; exact blk_ne hc hb hne e'
theorem row_set {e base : Nat} {W : World} {g n cap i : Nat} {xs : List Int} (h : kInt.R e W base (fun _ => True) (.slice (some ⟨g, 0, none⟩) n cap) xs) (hi : i < n) (y : Int) : kInt.R e (W.setCell ⟨g, i, none⟩ (.int .i64 y)) base (fun _ => True) (.slice (some ⟨g, 0, none⟩) n cap) (xs.set i y) := by
  have hn := (Kd.R_reads' h).1
  obtain ⟨c, hcl, hcM, hcc, _⟩ := Kd.R_elem h (xs[0]'(by omega)) (i : Int) (by omega) (by omega)
  have hsz : kInt.sz = 1 := rfl
  obtain ⟨hrow, _⟩ := Kd.R_seg (j := 0) (seg := [.int .i64 y]) (x' := y) (okp := fun _ => False) h (i : Int) (by omega) (by omega) hcl hcc (by rw [hsz]; simp) (show _ = [Value.int .i64 y] by
    rw [hsz] at hcl
    rw [List.take_zero, List.nil_append, List.drop_of_length_le (by simp; omega), List.append_nil]) (fun _ hk => False.elim hk)
  have e2 : W.setCells g ((i : Int).toNat * kInt.sz + 0) [.int .i64 y] = W.setCell ⟨g, i, none⟩ (.int .i64 y) := by rw [hsz, Int.toNat_natCast, Nat.mul_one, Nat.add_zero]; rfl
  rw [e2, Int.toNat_natCast] at hrow
  exact hrow
theorem row_sets {e base : Nat} {g n cap : Nat} : ∀ (ys : List Int) (W : World) (o : Nat) (xs : List Int), kInt.R e W base (fun _ => True) (.slice (some ⟨g, 0, none⟩) n cap) xs → o + ys.length ≤ n →
    kInt.R e (W.setCells g o (ys.map (Value.int .i64))) base (fun _ => True) (.slice (some ⟨g, 0, none⟩) n cap) (xs.take o ++ ys ++ xs.drop (o + ys.length))
  | [], W, o, xs, h, _ => by rw [List.map_nil, show W.setCells g o [] = W from rfl]; simpa using h
  | y :: ys, W, o, xs, h, hl => by
    have hn := (Kd.R_reads' h).1
    simp only [List.length_cons] at hl
    have h2 := row_sets ys _ (o + 1) (xs.set o y) (row_set h (by omega) y) (by omega)
    have e1 : (xs.set o y).take (o + 1) ++ ys ++ (xs.set o y).drop (o + 1 + ys.length) = xs.take o ++ (y :: ys) ++ xs.drop (o + (y :: ys).length) := by
      have e0 : (xs.set o y).take (o + 1) = xs.take o ++ [y] := by
        apply List.ext_getElem?
        intro j
        rw [List.getElem?_take]
        rcases Nat.lt_trichotomy j o with hj | hj | hj
        · rw [if_pos (by omega), List.getElem?_set_ne (by omega), List.getElem?_append_left (by simp; omega), List.getElem?_take_of_lt hj]
        · subst hj
          rw [if_pos (by omega), List.getElem?_set_self (by omega), List.getElem?_append_right (by simp; omega)]
          simp [Nat.min_eq_left (show j ≤ xs.length by omega)]
        · rw [if_neg (by omega), List.getElem?_eq_none (by simp; omega)]
      rw [List.drop_set_of_lt (by omega), e0]
      simp only [List.append_assoc, List.cons_append, List.nil_append, List.length_cons]
      rw [show o + 1 + ys.length = o + (ys.length + 1) by omega]
    rw [e1] at h2
    exact h2
/-- One cell of a block known whole is written. -/
theorem wpList_put1 {P : Program} {ops : Array Oper} {rest : List Oper} {o : Oper} {a : Act} {Q : Exit → Act → World → Prop} {W : World} (hN : o.dst = none) (hgd : o.guard = none) (t : TypeId) (p x : Operand) (ho : o.op = .store t p x) {g i : Nat} {cs : Array Value} {T : TypeId} (v : Value) (haddr : a.eval p = .pointer (some ⟨g, i, none⟩)) (hx : a.eval x = v) (hv : v.cells.toList = [v])
    (ht : (P.info? t).map (·.size) = some 1) (h1 : v.oneCell' = true) (hg : W.heap[g]? = some (.cells cs T (0, 0))) (hi : i < cs.size) (h : ∀ w1, w1.heap[g]? = some (.cells (cs.setIfInBounds i v) T (0, 0)) → Tch (fun k => k = g) W w1 → w1.heap.size = W.heap.size → wpList P ops Q rest a w1) : wpList P ops Q (o :: rest) a W := by
  have hrun : (Instr.storeAt t (.pointer (some ⟨g, i, none⟩)) v).run P W = .ok () (W.setCells g i [v]) := run_store_run t v [v] hg hv ht (by simp; omega) (by intro q hq; rw [List.mem_singleton.1 hq]; exact h1)
  have e : W.setCells g i [v] = W.setCell ⟨g, i, none⟩ v := rfl
  refine wpList_plain hgd fun K hK => ?_
  unfold Oper.wp execOp
  simp only [ho, haddr, hx, Sem.run_bind, Sem.run_pure, Result.andThen_ok, hrun]
  show K (a.put o.dst undef) _
  rw [hN, e]
  exact hK a _ (h _ (blk_set hg i v) (Tch.set rfl) (World.size_setCell _ _ _))
/-- copy(row of its own, row of numbers). -/
theorem wpList_copyInts {P : Program} {w : World} {ops : Array Oper} {rest : List Oper} {o : Oper} {a : Act} {Q : Exit → Act → World → Prop} (hgd : o.guard = none) (d s : Operand) (dT sT : TypeId)
    (ho : o.op = .call { callee := .builtin .copy, args := #[d, s], argTypes := #[dT, sT] }) (elem : TypeId) (hu : P.underlying dT = some (.slice elem)) (hsz : (P.info? elem).map (·.size) = some 1)
    {e base g n cap m m' b : Nat} {xs ys : List Int} {cs : Array Value} {T : TypeId} (hd : a.eval d = .slice (some ⟨g, 0, none⟩) n cap) (hs : a.eval s = .slice (some ⟨b, 0, none⟩) m m') (hm : m = ys.length) (hb : w.heap[b]? = some (.cells cs T (0, 0))) (hcs : cs = (ys.map (Value.int .i64)).toArray) (hR : kInt.R e w base (fun _ => True) (.slice (some ⟨g, 0, none⟩) n cap) xs) (hl : ys.length ≤ n) (hp : 0 < n)
    (h : ∀ w' : World, kInt.R e w' base (fun _ => True) (.slice (some ⟨g, 0, none⟩) n cap) (ys ++ xs.drop ys.length) → Tch (fun k => k = g) w w' → wpList P ops Q rest (a.put o.dst (goInt ys.length)) w') : wpList P ops Q (o :: rest) a w := by
  have hn := (Kd.R_reads' hR).1
  have hC := (Kd.R_reads' hR).2.2
  obtain ⟨cells, hg⟩ := row_blk hR hp
  have hrun := run_copy_cells (P := P) w dT sT o.type elem g 0 n cap ⟨b, 0, none⟩ m m' (ys.map (Value.int .i64)) hu hsz (by rw [List.length_map, hm]; exact (Nat.min_eq_left hl).symm)
    (fun j v hj => by rw [add_plain, blk_cell hb j, hcs]; simpa using hj)
    (fun j hj => by
      rw [List.length_map] at hj
      obtain ⟨ad, he, hz⟩ := int_at hC (show j < xs.length by omega)
      injection he with he; subst he
      rw [add_plain] at hz
      rw [Nat.zero_add, hz]; rfl) (fun j _ => blk_frozen hg _) (fun v hv => by obtain ⟨y, _, rfl⟩ := List.mem_map.1 hv; rfl)
  rw [List.length_map] at hrun
  obtain ⟨s1, s2, s3, s4⟩ := setCells_same g (ys.map (Value.int .i64)) 0 w
  have hgr : w.grownBy (w.setCells g 0 (ys.map (Value.int .i64))) (some g) := ⟨s1, s2, s3, Nat.le_of_eq s4.symm, fun k _ hk => setCells_far _ 0 k (fun e => hk (by rw [e]))⟩
  refine wpList_plain hgd fun K hK => ?_
  unfold Oper.wp
  simp [execOp, ho, resolve, invoke, builtin, hd, hs, hrun, Result.andThen]
  have h2 := row_sets ys w 0 xs hR (by omega)
  rw [List.take_zero, List.nil_append, Nat.zero_add] at h2
  exact hK _ _ (h _ h2 (Tch.grown hgr rfl hgr.size))
end Go.Proofs.YtlhpbpkefkabgaaGreat.L1
set_option linter.unusedVariables false
namespace Go.Proofs.YtlhpbpkefkabgaaGreat.Grow
/-- x once b is so, else y. -/
def onlyIf {α : Type} (b : Bool) (x y : α) : α := if b = true then x else y
theorem onlyIf_t {α : Type} (x y : α) : onlyIf true x y = x := rfl
theorem onlyIf_f {α : Type} (x y : α) : onlyIf false x y = y := rfl
section
variable {P : Program}
theorem wp_region_cells {id : Nat} {Q : Exit → Act → World → Prop} {a : Act} {w : World} {l : List Oper} (mk : Act → (Nat → Bool) → Act) (J : (Nat → Bool) → World → Prop) (hm : P.follows .mixedOrders = true) (hg : l.all (fun o => o.guard.isNone) = true) (hb : backB .any l.toArray = true)
    (h : ∀ T : (Nat → Bool) → Act, (∀ f, T f = mk a f) → (a = T (fun _ => false) ∧ J (fun _ => false) { w with drawn := w.drawn + 1 }) ∧ Steps P l.toArray .any (fun f A W => A = T f ∧ J f W) Q 0 l ∧ (∀ f W, (∀ i, i < l.length → f i = true) → J f W → Q .normal (T f) W)) : (Code.region id l.toArray true).wp P Q a w := by
  obtain ⟨h1, h2, h3⟩ := h (fun f => mk a f) fun _ => rfl
  exact wp_region_inv (fun b _ f A W => A = mk a f ∧ J f W) hm hg hb h1 h2 fun a' w' ⟨p, hp, hA, hJ⟩ => by rw [hA]; exact h3 p w' hp hJ
theorem cells_step {ops : Array Oper} {md : Region.Mode} {T : (Nat → Bool) → Act} {J : (Nat → Bool) → World → Prop} {Q : Exit → Act → World → Prop} {i : Nat} {o : Oper}
    (h : ∀ (f : Nat → Bool) (W : World), (∀ e ∈ o.after, Region.binds md e = true → f e.on = true) → f i = false → J f W → ∀ K : Act → World → Prop, (∀ a' w', a' = T (fun j => f j || j == i) → J (fun j => f j || j == i) w' → K a' w') → o.wp P (T f) W K Q) : Step P ops md (fun f A W => A = T f ∧ J f W) Q i o := by
  intro f A W hp hn ⟨hA, hJ⟩
  subst hA
  exact h f W hp hn hJ _ fun a' w' h1 h2 => ⟨h1, h2⟩
end
end Go.Proofs.YtlhpbpkefkabgaaGreat.Grow
