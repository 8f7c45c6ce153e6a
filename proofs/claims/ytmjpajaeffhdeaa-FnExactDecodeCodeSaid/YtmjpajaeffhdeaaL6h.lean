/- Marks of code with what they leave; what is held. -/
import Derived.Test.YtmjpajaeffhdeaaL5f
namespace Go.Proofs.Ytmjpajaeffhdeaa.B
open Go.RowKit Go.Proofs.YtmjpajaeffhdeaaW.PrintWords
set_option linter.unusedVariables false
namespace Kd
open Go.Proofs.YtmjpajaeffhdeaaW.PrintWords.Kd
section
variable {P : Program} {ops : Array Oper} {rest : List Oper} {o : Oper} {a : Act} {Q : Exit → Act → World → Prop} {α : Type} {n : Nat} {enc : α → List Value} {hn : ∀ x, (enc x).length = n} {h1 : ∀ x, ∀ u ∈ enc x, u.oneCell' = true}
/-- out[k].field = y. -/
theorem flat_put (d : Kd α) (hdd : d = flat n enc hn h1) {w0 W : World} (base : Nat) (hN : o.dst = none) (hgd : o.guard = none) (t : TypeId) (p x : Operand) (ho : o.op = .store t p x) {e g m cap o' : Nat} (k j : Nat) {xs : List α} (y : Value) (x0 x' z : α) (ok : Nat → Prop)
    (haddr : a.eval p = .pointer (some ⟨g, o', none⟩)) (hoff : o' = k * n + j) (hx : a.eval x = y) (hy : y.cells.toList = [y]) (ht : (P.info? t).map (·.size) = some 1) (hq : y.oneCell' = true)
    (HO : d.R e W base ok (.slice (some ⟨g, 0, none⟩) m cap) xs) (hk : k < m) (hjn : j < n) (h0 : xs.getD k z = x0) (hc : enc x' = (enc x0).take j ++ [y] ++ (enc x0).drop (j + 1)) (HB : Below base w0 W)
    (h : ∀ w1, d.R e w1 base ok (.slice (some ⟨g, 0, none⟩) m cap) (xs.set k x') → Below base w0 w1 → W.grownBy w1 (some g) → wpList P ops Q rest a w1) : wpList P ops Q (o :: rest) a W := by
  subst hdd
  have hC := (R_reads' HO).2.2
  have hm := (R_reads' HO).1
  obtain ⟨ad, e1, hcell⟩ := flat_at hC z k (by omega)
  cases e1
  rw [h0] at hcell
  refine R_store (flat n enc hn h1) (w0 := w0) (W := W) base hN hgd t p x ho e (k : Int) j xs x' y [y] (enc x0) ok (fun _ => False) haddr (by rw [Int.toNat_natCast]; exact hoff) hx hy ht (by intro q hq'; simp only [List.mem_singleton] at hq'; subst hq'; exact hq) HO (by omega) (by omega) (hn x0)
    (fun i u hu => by have := hcell i u hu; rw [Addr.add_lit, Nat.zero_add] at this; rw [Int.toNat_natCast]; exact this) (by show j + 1 ≤ n; omega) (show (enc x0).take j ++ [y] ++ (enc x0).drop (j + [y].length) = enc x' from hc.symm) (fun q hq => hq.elim) HB ?_
  intro w1 hr hb hg
  rw [Int.toNat_natCast] at hr
  exact h w1 hr hb hg
end
end Kd
end Go.Proofs.Ytmjpajaeffhdeaa.B
namespace Go.Proofs.Ytmjpajaeffhdeaa.L1
open Go.RowKit Go.Proofs.YtmjpajaeffhdeaaW.PrintWords Go.Proofs.Ytmjpajaeffhdeaa.B
set_option linter.unusedVariables false
set_option linter.unusedSimpArgs false
attribute [local go_sem] mk_cell mk_frozen
def markI (k : Nat) : Ins := ⟨k, (k + 1 : Nat), (k + 2 : Nat), (k + 3 : Nat)⟩
def marksI (k n : Nat) : List Ins := (List.range n).map fun j => markI (k + 4 * j)
theorem marksI_len (k n : Nat) : (marksI k n).length = n := by simp [marksI]
theorem marksI_at (k n j : Nat) (h : j < n) : (marksI k n).getD j zIns = markI (k + 4 * j) := by
  rw [List.getD_eq_getElem?_getD, List.getElem?_eq_getElem (by rw [marksI_len]; exact h)]
  simp [marksI]
theorem getD_set {α : Type} (xs : List α) (k : Nat) (x z : α) (h : k < xs.length) : (xs.set k x).getD k z = x := by
  rw [List.getD_eq_getElem?_getD, List.getElem?_set_self h]; rfl
section
variable (w : World)
set_option maxRecDepth 100000 in
set_option maxHeartbeats 4000000 in
theorem markInsC (w0 : World) (base : Nat) (ok : Nat → Prop) (A : Option Addr) (c : Nat) (xs : List Ins) (k : Nat) (hk : k + 4 * xs.length ≤ 1000000000) (hr : kIns.R 81 w base ok (.slice A xs.length c) xs) (hb : Below base w0 w) :
    Calls Try.prog 65 #[.slice A xs.length c, .int .i64 k] w fun e w' => e = .returned (.int .i64 ((k + 4 * xs.length : Nat) : Int)) ∧ kIns.R 81 w' base ok (.slice A xs.length c) (marksI k xs.length) ∧ Below base w0 w' ∧ w.grownBy w' (Value.slice A xs.length c).ownBlock := by
  have HR := Aside0.mk hr; have HB := Aside0.mk hb; clear hr hb
  obtain ⟨ms, hms⟩ : ∃ ms, ms = marksI k xs.length := ⟨_, rfl⟩
  have HLEN := Aside0.mk (show xs.length = ms.length by rw [hms, marksI_len])
  have HMS := Aside0.mk hms; clear hms
  go_enter Try.func65, Try.ntmps65
  go_wp2_with fail
  go_loopg [1, 5] (xs.length + 1) (fun q v1 v5 wr => ∃ (j : Nat) (ys : List Ins), q = xs.length + 1 - j ∧ j ≤ xs.length ∧ v1 = .int .i64 ((k + 4 * j : Nat) : Int) ∧ v5 = .int .i64 j ∧ Aside0 (Filled ms j ys) ∧ Aside0 (kIns.R 81 wr base ok (.slice A xs.length c) ys) ∧ Aside0 (Below base w0 wr) ∧ Aside0 (w.grownBy wr (Value.slice A xs.length c).ownBlock))
  case atStart => exact ⟨0, xs, by omega, by omega, rfl, rfl, ⟨HLEN.out, fun j hj => absurd hj (Nat.not_lt_zero _)⟩, HR, HB, ⟨World.grownBy.refl w _⟩⟩
  case round =>
    obtain ⟨j, ys, rfl, hj, rfl, rfl, HF, HO, HBk, HG⟩ := hrel
    clear HR HB
    by_cases hlt : j < xs.length
    · have HF1 := Aside0.mk (HF.out.step (z := zIns) (by have := HLEN.out; omega))
      have HM := Aside0.mk (show ms.getD j zIns = markI (k + 4 * j) by rw [HMS.out, marksI_at k _ j hlt])
      obtain ⟨g, cap, e0, hg, _, _⟩ := Kd.R_form HO.out (by rw [HF.out.1]; have := HLEN.out; omega)
      simp only [Value.slice.injEq] at e0
      obtain ⟨rfl, hyl, rfl⟩ := e0
      have HYL := Aside0.mk hyl; clear hyl
      obtain ⟨K, hK⟩ : ∃ K, K = k + 4 * j := ⟨_, rfl⟩
      rw [← hK] at HM
      rw [← hK]
      have HK := Aside0.mk hK
      have hKb : K ≤ 1000000000 := by omega
      clear hK
      obtain ⟨q, hq⟩ : ∃ q, ys.getD j zIns = q := ⟨_, rfl⟩
      have HQ := Aside0.mk hq; clear hq
      go_wp2_with (first
        | ((with_reducible refine gate_store (t := 2) (p := 16) rfl ?_); refine Kd.flat_put kIns rfl (w0 := w0) base rfl rfl 2 _ _ rfl j 0 (.int .i64 K) q ⟨K, q.a, q.b, q.c⟩ zIns ok rfl rfl rfl rfl (by kernel_rfl) rfl HO.out hlt (by decide) HQ.out rfl HBk.out ?_; intro w3 hr3 hb3 hg3; have O1 := Aside0.mk hr3; have B1 := Aside0.mk hb3; have G1 := Aside0.mk (World.grownBy.trans HG.out hg3); clear hr3 hb3 hg3)
        | ((with_reducible refine gate_store (t := 2) (p := 23) rfl ?_); refine Kd.flat_put kIns rfl (w0 := w0) base rfl rfl 2 _ _ rfl j 1 (.int .i64 ((K : Int) + 1)) ⟨K, q.a, q.b, q.c⟩ ⟨K, (K : Int) + 1, q.b, q.c⟩ zIns ok rfl rfl rfl rfl (by kernel_rfl) rfl O1.out hlt (by decide) (getD_set _ _ _ _ (by rw [← HYL.out]; exact hlt)) rfl B1.out ?_; intro w4 hr3 hb3 hg3; have O2 := Aside0.mk hr3; have B2 := Aside0.mk hb3; have G2 := Aside0.mk (World.grownBy.trans G1.out hg3); clear hr3 hb3 hg3)
        | ((with_reducible refine gate_store (t := 2) (p := 30) rfl ?_); refine Kd.flat_put kIns rfl (w0 := w0) base rfl rfl 2 _ _ rfl j 2 (.int .i64 ((K : Int) + 1 + 1)) ⟨K, (K : Int) + 1, q.b, q.c⟩ ⟨K, (K : Int) + 1, (K : Int) + 1 + 1, q.c⟩ zIns ok rfl rfl rfl rfl (by kernel_rfl) rfl O2.out hlt (by decide) (getD_set _ _ _ _ (by rw [List.length_set, ← HYL.out]; exact hlt)) rfl B2.out ?_; intro w5 hr3 hb3 hg3; have O3 := Aside0.mk hr3; have B3 := Aside0.mk hb3; have G3 := Aside0.mk (World.grownBy.trans G2.out hg3); clear hr3 hb3 hg3)
        | ((with_reducible refine gate_store (t := 2) (p := 37) rfl ?_); refine Kd.flat_put kIns rfl (w0 := w0) base rfl rfl 2 _ _ rfl j 3 (.int .i64 ((K : Int) + 1 + 1 + 1)) ⟨K, (K : Int) + 1, (K : Int) + 1 + 1, q.c⟩ ⟨K, (K : Int) + 1, (K : Int) + 1 + 1, (K : Int) + 1 + 1 + 1⟩ zIns ok rfl rfl rfl rfl (by kernel_rfl) rfl O3.out hlt (by decide) (getD_set _ _ _ _ (by rw [List.length_set, List.length_set, ← HYL.out]; exact hlt)) rfl B3.out ?_; intro w6 hr3 hb3 hg3; have O4 := Aside0.mk hr3; have B4 := Aside0.mk hb3; have G4 := Aside0.mk (World.grownBy.trans G3.out hg3); clear hr3 hb3 hg3))
      have HMI := Aside0.mk (show markI K = ⟨K, (K : Int) + 1, (K : Int) + 1 + 1, (K : Int) + 1 + 1 + 1⟩ by unfold markI; congr 1)
      go_roundg (xs.length + 1 - (j + 1))
      case measure => omega
      case rel => exact ⟨j + 1, _, rfl, hlt, by show Value.int .i64 _ = Value.int .i64 _; congr 1; have := HK.out; omega, by go_num, HF1, ⟨by rw [HM.out, HMI.out]; have h := O4.out; simp only [List.set_set] at h; exact h⟩, B4, G4⟩
    · have hjl : j = xs.length := by omega
      subst hjl
      go_wp2
      go_ret
      exact ⟨rfl, by rw [← HMS.out, ← HF.out.done (by have := HLEN.out; omega)]; exact HO.out, HBk.out, HG.out⟩
set_option maxRecDepth 100000 in
set_option maxHeartbeats 2000000 in
theorem heldInsS (A : Option Addr) (c n k : Nat) (hk : k + 4 * n ≤ 1000000000) (hr : kIns.C w A n (marksI k n)) :
    Calls Try.prog 69 #[.slice A n c, .int .i64 k] w fun e w' => e = .returned (.int .i64 ((k + 4 * n : Nat) : Int)) ∧ w' = w := by
  have HR := Aside0.mk hr; clear hr
  go_enter Try.func69, Try.ntmps69
  go_wp2_with fail
  go_loopg [1, 5] (n + 1) (fun q v1 v5 wr => ∃ j : Nat, q = n + 1 - j ∧ j ≤ n ∧ v1 = .int .i64 ((k + 4 * j : Nat) : Int) ∧ v5 = .int .i64 j ∧ wr = w)
  case atStart => exact ⟨0, by omega, by omega, rfl, rfl, rfl⟩
  case round =>
    obtain ⟨j, rfl, hj, rfl, rfl, rfl⟩ := hrel
    by_cases hlt : j < n
    · obtain ⟨ad, e0, t0, t1⟩ := Kd.flat_cells (d := kIns) rfl HR.out zIns j hlt
      cases e0
      rw [marksI_at k n j hlt] at t0 t1
      obtain ⟨K, hK⟩ : ∃ K, K = k + 4 * j := ⟨_, rfl⟩
      rw [← hK] at t0 t1 ⊢
      have HK := Aside0.mk hK
      have hKb : K ≤ 1000000000 := by omega
      clear hK
      have c0 := t0 _ rfl; have c1 := t1 0 _ rfl; have c2 := t1 1 _ rfl; have c3 := t1 2 _ rfl
      have c1' : wr.cell? _ = some (.int .i64 ((K : Int) + 1)) := c1
      have c2' : wr.cell? _ = some (.int .i64 ((K : Int) + 1 + 1)) := c2
      have c3' : wr.cell? _ = some (.int .i64 ((K : Int) + 1 + 1 + 1)) := c3
      have c0' : wr.cell? _ = some (.int .i64 (K : Int)) := c0
      clear t0 t1 c0 c1 c2 c3
      go_wp2
      go_roundg (n + 1 - (j + 1))
      case measure => omega
      case rel => exact ⟨j + 1, rfl, hlt, by show Value.int .i64 _ = Value.int .i64 _; congr 1; have := HK.out; omega, by go_num, rfl⟩
    · have hjl : j = n := by omega
      subst hjl
      go_wp2
      go_ret
      exact ⟨rfl, rfl⟩
/-- What the marks make of the code. -/
def markedC (x : Code) (k : Nat) : Code := ⟨x.regs, x.slots, marksI k x.b0.length, marksI (k + 4 * x.b0.length) x.b1.length, marksI (k + 4 * x.b0.length + 4 * x.b1.length) x.b2.length⟩
/-- The rows of the code lie below top. -/
def TopCode (v : Value) (top : Nat) : Prop := ∀ r s v0 v1 v2, v = .agg #[r, s, v0, v1, v2] → (∀ k, v0.ownBlock = some k → k < top) ∧ (∀ k, v1.ownBlock = some k → k < top) ∧ (∀ k, v2.ownBlock = some k → k < top)
theorem OwnCode.top {w : World} {base : Nat} {v : Value} {x : Code} (h : OwnCode w base v x) : TopCode v w.heap.size := by
  obtain ⟨v0, v1, v2, s1, s2, rfl, _, h0, h1, h2⟩ := h
  intro r s u0 u1 u2 e
  cases e
  exact ⟨fun k hk => Kd.R_lt h0 k hk, fun k hk => Kd.R_lt h1 k hk, fun k hk => Kd.R_lt h2 k hk⟩
set_option maxRecDepth 100000 in
set_option maxHeartbeats 2000000 in
theorem markCodeC (top base : Nat) (v : Value) (x : Code) (k : Nat) (hx : x.small) (hk : k ≤ 1000) (hr : OwnCode w base v x) (ht : TopCode v top) (htop : top ≤ w.heap.size) :
    Calls Try.prog 26 #[v, .int .i64 k] w fun e w' => e = .returned (.int .i64 ((k + 4 * x.b0.length + 4 * x.b1.length + 4 * x.b2.length : Nat) : Int)) ∧ Only w w' (fun i => base ≤ i ∧ i < top) ∧ OwnCode w' base v (markedC x k) := by
  obtain ⟨v0, v1, v2, s1, s2, rfl, hss, h0, h1, h2⟩ := hr
  obtain ⟨A0, c0, rfl⟩ := Kd.R_slice h0
  obtain ⟨A1, c1, rfl⟩ := Kd.R_slice h1
  obtain ⟨A2, c2, rfl⟩ := Kd.R_slice h2
  obtain ⟨n0, n1, n2⟩ := hx
  obtain ⟨t0, t1, t2⟩ := ht _ _ _ _ _ rfl
  have HSS := Aside0.mk hss; clear hss
  have P0 := Aside0.mk (show ∀ i, some i = (Value.slice A0 x.b0.length c0).ownBlock → base ≤ i ∧ i < top ∧ i < s1 from fun i hi => ⟨Kd.R_base h0 i hi.symm, t0 i hi.symm, h0.1 i hi.symm⟩)
  have P1 := Aside0.mk (show ∀ i, some i = (Value.slice A1 x.b1.length c1).ownBlock → base ≤ i ∧ i < top ∧ s1 ≤ i ∧ i < s2 from fun i hi => ⟨Kd.R_base h1 i hi.symm, t1 i hi.symm, h1.1 i hi.symm⟩)
  have P2 := Aside0.mk (show ∀ i, some i = (Value.slice A2 x.b2.length c2).ownBlock → base ≤ i ∧ i < top ∧ s2 ≤ i from fun i hi => ⟨Kd.R_base h2 i hi.symm, t2 i hi.symm, h2.1 i hi.symm⟩)
  have HTS := Aside0.mk htop; clear t0 t1 t2 ht htop
  have H0 := Aside0.mk (Kd.R_alloc h0 (.cells #[.int .i64 x.regs, .int .i64 x.slots, .slice A0 x.b0.length c0, .slice A1 x.b1.length c1, .slice A2 x.b2.length c2] 32)); have H1 := Aside0.mk (Kd.R_alloc h1 (.cells #[.int .i64 x.regs, .int .i64 x.slots, .slice A0 x.b0.length c0, .slice A1 x.b1.length c1, .slice A2 x.b2.length c2] 32)); have H2 := Aside0.mk (Kd.R_alloc h2 (.cells #[.int .i64 x.regs, .int .i64 x.slots, .slice A0 x.b0.length c0, .slice A1 x.b1.length c1, .slice A2 x.b2.length c2] 32)); clear h0 h1 h2
  have HW := Aside0.mk (Only.grown (P := fun i => base ≤ i ∧ i < top) (World.grownBy_alloc w (.cells #[.int .i64 x.regs, .int .i64 x.slots, .slice A0 x.b0.length c0, .slice A1 x.b1.length c1, .slice A2 x.b2.length c2] 32) none) (fun i hi => by cases hi))
  have HA := Aside0.mk (al_new w (.cells #[.int .i64 x.regs, .int .i64 x.slots, .slice A0 x.b0.length c0, .slice A1 x.b1.length c1, .slice A2 x.b2.length c2] 32))
  have HL := Aside0.mk (And.intro n0 (And.intro n1 n2)); clear n0 n1 n2
  go_enter Try.func26, Try.ntmps26
  go_wp2_with fail
  go_at_call 65
  refine (markInsC _ (w.alloc (.cells #[.int .i64 x.regs, .int .i64 x.slots, .slice A0 x.b0.length c0, .slice A1 x.b1.length c1, .slice A2 x.b2.length c2] 32)) base _ A0 c0 x.b0 k (by have := HL.out; omega) H0.out (Below.refl _ _)).mono ?_
  rintro e w1 ⟨rfl, hm, _, hg⟩
  have HNE := Aside0.mk (show ∀ row : Option Nat, (∀ i, some i = row → i < top) → some w.heap.size ≠ row from fun row hr h => by have := hr w.heap.size h; have := HTS.out; omega)
  have HA1 := Aside0.mk (blk_grown HA.out hg (HNE.out _ fun i hi => (P0.out i hi).2.1))
  have M0 := Aside0.mk hm
  have K1 := Aside0.mk (Kd.R_grown H1.out hg (fun i hi h => by have := P0.out i h; omega))
  have K2 := Aside0.mk (Kd.R_grown H2.out hg (fun i hi h => by have := P0.out i h; have := HSS.out; omega))
  have HW1 := Aside0.mk (Only.trans HW.out (Only.grown hg fun i hi => ⟨(P0.out i hi).1, (P0.out i hi).2.1⟩)); clear hg hm H0 H1 H2 HA HW
  obtain ⟨b1, b2⟩ := lay (Below.refl _ _) HA1.out
  go_wp2_with fail
  clear b1 b2
  go_at_call 65
  refine (markInsC _ w1 base _ A1 c1 x.b1 (k + 4 * x.b0.length) (by have := HL.out; omega) K1.out (Below.refl _ _)).mono ?_
  rintro e w2 ⟨rfl, hm, _, hg⟩
  have HA2 := Aside0.mk (blk_grown HA1.out hg (HNE.out _ fun i hi => (P1.out i hi).2.1))
  have M0' := Aside0.mk (Kd.R_grown M0.out hg (fun i hi h => by have := P1.out i h; omega))
  have M1 := Aside0.mk hm
  have J2 := Aside0.mk (Kd.R_grown K2.out hg (fun i hi h => by have := P1.out i h; have := HSS.out; omega))
  have HW2 := Aside0.mk (Only.trans HW1.out (Only.grown hg fun i hi => ⟨(P1.out i hi).1, (P1.out i hi).2.1⟩)); clear hg hm K1 K2 HA1 HW1 M0
  obtain ⟨b1, b2⟩ := lay (Below.refl _ _) HA2.out
  go_wp2_with fail
  clear b1 b2
  go_at_call 65
  refine (markInsC _ w2 base _ A2 c2 x.b2 (k + 4 * x.b0.length + 4 * x.b1.length) (by have := HL.out; omega) J2.out (Below.refl _ _)).mono ?_
  rintro e w3 ⟨rfl, hm, _, hg⟩
  have M2 := Aside0.mk hm
  have N0 := Aside0.mk (Kd.R_grown M0'.out hg (fun i hi h => by have := P2.out i h; have := HSS.out; omega))
  have N1 := Aside0.mk (Kd.R_grown M1.out hg (fun i hi h => by have := P2.out i h; omega))
  have HW3 := Aside0.mk (Only.trans HW2.out (Only.grown hg fun i hi => ⟨(P2.out i hi).1, (P2.out i hi).2.1⟩)); clear hg hm J2 HA2 HW2 M0' M1
  go_wp2
  go_ret
  refine ⟨rfl, HW3.out, _, _, _, s1, s2, ?_, HSS.out, N0.out, N1.out, M2.out⟩
  rfl
set_option maxRecDepth 100000 in
set_option maxHeartbeats 2000000 in
theorem heldCode (v : Value) (x : Code) (k : Nat) (hx : x.small) (hk : k ≤ 1000) (hr : ReadCode w v (markedC x k)) :
    Calls Try.prog 32 #[v, .int .i64 k] w fun e w' => e = .returned (.int .i64 ((k + 4 * x.b0.length + 4 * x.b1.length + 4 * x.b2.length : Nat) : Int)) ∧ Below w.heap.size w w' := by
  obtain ⟨A0, c0, A1, c1, A2, c2, rfl, h0, h1, h2⟩ := hr
  simp only [markedC, marksI_len] at h0 h1 h2 ⊢
  obtain ⟨n0, n1, n2⟩ := hx
  have HB := Aside0.mk (below_alloc (Below.refl w.heap.size w) (.cells #[.int .i64 x.regs, .int .i64 x.slots, .slice A0 x.b0.length c0, .slice A1 x.b1.length c1, .slice A2 x.b2.length c2] 32))
  have H0 := Aside0.mk (Kd.C_alloc h0 (.cells #[.int .i64 x.regs, .int .i64 x.slots, .slice A0 x.b0.length c0, .slice A1 x.b1.length c1, .slice A2 x.b2.length c2] 32)); have H1 := Aside0.mk (Kd.C_alloc h1 (.cells #[.int .i64 x.regs, .int .i64 x.slots, .slice A0 x.b0.length c0, .slice A1 x.b1.length c1, .slice A2 x.b2.length c2] 32)); have H2 := Aside0.mk (Kd.C_alloc h2 (.cells #[.int .i64 x.regs, .int .i64 x.slots, .slice A0 x.b0.length c0, .slice A1 x.b1.length c1, .slice A2 x.b2.length c2] 32)); clear h0 h1 h2
  obtain ⟨b1, b2⟩ := lay (Below.refl _ _) (al_new w (.cells #[.int .i64 x.regs, .int .i64 x.slots, .slice A0 x.b0.length c0, .slice A1 x.b1.length c1, .slice A2 x.b2.length c2] 32))
  have d0 : decide (((k + 4 * x.b0.length : Nat) : Int) < 0) = false := decide_eq_false (by omega)
  have d1 : decide (((k + 4 * x.b0.length + 4 * x.b1.length : Nat) : Int) < 0) = false := decide_eq_false (by omega)
  have d2 : decide (((k + 4 * x.b0.length + 4 * x.b1.length + 4 * x.b2.length : Nat) : Int) < 0) = false := decide_eq_false (by omega)
  go_enter Try.func32, Try.ntmps32
  go_wp2_with fail
  go_at_call 69
  refine (heldInsS _ A0 c0 x.b0.length k (by omega) H0.out).mono ?_
  rintro e w1 ⟨rfl, rfl⟩
  go_wp2_with fail
  go_at_call 69
  refine (heldInsS _ A1 c1 x.b1.length (k + 4 * x.b0.length) (by omega) H1.out).mono ?_
  rintro e w1 ⟨rfl, rfl⟩
  go_wp2_with fail
  go_at_call 69
  refine (heldInsS _ A2 c2 x.b2.length (k + 4 * x.b0.length + 4 * x.b1.length) (by omega) H2.out).mono ?_
  rintro e w1 ⟨rfl, rfl⟩
  go_wp2_with fail
  go_ret
  exact ⟨rfl, HB.out⟩
set_option maxHeartbeats 1000000 in
theorem toByteS (A : Option Addr) (c : Nat) (xs : List Int) (hr : kByte.C w A xs.length xs) (hm : xs.length ≤ 1048576) : Calls Try.prog 30 #[.slice A xs.length c] w fun e w' => ∃ v, e = .returned v ∧ kByte.R 5 w' w.heap.size (fun _ => True) v xs ∧ Below w.heap.size w w' := by
  have HR := Aside0.mk hr; clear hr
  go_enter Try.func30, Try.ntmps30
  go_wp2_with (refine Kd.flat_make kByte rfl 7 rfl rfl 36 _ _ rfl xs.length rfl rfl 5 Try.underlying36 0 1 (by kernel_rfl) (by decide) (by decide) (by omega) (Below.refl _ _) ?_; intro v1 w1 hr1 hb1 _)
  have HR1 := Aside0.mk hr1; have HB1 := Aside0.mk hb1; clear hr1 hb1
  go_loopg [4] (xs.length + 1) (fun q v4 wr => ∃ k ys, q = xs.length + 1 - k ∧ k ≤ xs.length ∧ v4 = .int .i64 k ∧ Aside0 (Filled xs k ys) ∧ Aside0 (kByte.R 5 wr w.heap.size (fun _ => True) v1 ys) ∧ Aside0 (Below w.heap.size w wr))
  case atStart => exact ⟨0, _, by omega, by omega, rfl, ⟨Filled.zero xs 0⟩, HR1, HB1⟩
  case round =>
    obtain ⟨k, ys, rfl, hk, rfl, HF, HO, HB⟩ := hrel
    clear HR1 HB1
    by_cases hlt : k < xs.length
    · have hf := HF.out.step hlt 0
      obtain ⟨ad, e0, h0, h1⟩ := Kd.flat_cells (d := kByte) rfl (Kd.C_below HR.out HB.out) 0 k hlt
      cases e0
      generalize xs.getD k 0 = x at hf h0 h1
      have HF1 := Aside0.mk hf; clear hf
      have c0 := h0 _ rfl; simp only [Nat.mul_one] at c0
      clear h0 h1
      obtain ⟨g, cap, rfl, hg, _, _⟩ := Kd.R_form HO.out (by rw [HF.out.1]; omega)
      have hky : k < ys.length := by rw [HF.out.1]; exact hlt
      go_wp2_with (first | ((with_reducible refine gate_store (t := 5) (p := 20) rfl ?_); refine Kd.flat_store kByte rfl rfl rfl 5 _ _ rfl k x rfl (Nat.mul_one k).symm rfl (by kernel_rfl) HO.out hky HB.out ?_; intro w3 hr3 hb3 _; have HO1 := Aside0.mk hr3; have HB1 := Aside0.mk hb3; clear hr3 hb3))
      go_roundg (xs.length + 1 - (k + 1))
      case measure => omega
      case rel => exact ⟨k + 1, _, rfl, hlt, by go_num, HF1, HO1, HB1⟩
    · go_wp2
      go_ret
      exact ⟨_, rfl, by rw [← HF.out.done (by omega)]; exact HO.out, HB.out⟩
end
end Go.Proofs.Ytmjpajaeffhdeaa.L1
