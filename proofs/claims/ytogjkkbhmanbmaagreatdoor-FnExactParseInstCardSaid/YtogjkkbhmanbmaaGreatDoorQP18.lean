/- The laws' helpers over bytes and instances: comparison, marks, what is held. -/
import Derived.Test.YtogjkkbhmanbmaaGreatDoorQP17
namespace Go.Proofs.YtogjkkbhmanbmaaGreatDoor.L1
open Go.RowKit Go.Proofs.YtogjkkbhmanbmaaGreatDoorW.PrintWords Go.Proofs.YtogjkkbhmanbmaaGreatDoor.B
set_option linter.unusedVariables false
set_option linter.unusedSimpArgs false
attribute [local go_sem] mk_cell mk_frozen
/-- Only the blocks of P are touched, of those that stood. -/
structure Only (w w' : World) (P : Nat → Prop) : Prop where
  os : w'.os = w.os
  tape : w'.tape = w.tape
  output : w'.output = w.output
  size : w.heap.size ≤ w'.heap.size
  block : ∀ i, i < w.heap.size → ¬ P i → w'.heap[i]? = w.heap[i]?
theorem Only.trans {w w1 w2 : World} {P : Nat → Prop} (h : Only w w1 P) (k : Only w1 w2 P) : Only w w2 P :=
  ⟨k.os.trans h.os, k.tape.trans h.tape, k.output.trans h.output, Nat.le_trans h.size k.size, fun i hi hp => (k.block i (Nat.lt_of_lt_of_le hi h.size) hp).trans (h.block i hi hp)⟩
theorem Only.grown {w w1 : World} {row : Option Nat} {P : Nat → Prop} (h : w.grownBy w1 row) (hp : ∀ i, some i = row → P i) : Only w w1 P :=
  ⟨h.os, h.tape, h.output, h.size, fun i hi hn => h.block i hi fun e => hn (hp i e)⟩
theorem Only.of_below {w w1 : World} {P : Nat → Prop} (h : Below w.heap.size w w1) : Only w w1 P := ⟨h.os, h.tape, h.output, h.size, fun i hi _ => h.block i hi⟩
theorem Only.below {w0 w w1 : World} {P : Nat → Prop} (h : Only w w1 P) (hb : Below w0.heap.size w0 w) (hp : ∀ i, i < w0.heap.size → ¬ P i) : Below w0.heap.size w0 w1 :=
  ⟨h.os.trans hb.os, h.tape.trans hb.tape, h.output.trans hb.output, Nat.le_trans hb.size h.size, fun i hi => (h.block i (Nat.lt_of_lt_of_le hi hb.size) (hp i hi)).trans (hb.block i hi)⟩
theorem grown_set {w W : World} {g : Nat} (h : w.grownBy W (some g)) (o : Nat) (v : Value) : w.grownBy (W.setCell ⟨g, o, none⟩ v) (some g) :=
  ⟨h.os, h.tape, h.output, by rw [World.size_setCell]; exact h.size, fun k hk hne => (Below.heap_setCell W ⟨g, o, none⟩ v k (fun e => hne (by rw [e]))).trans (h.block k hk hne)⟩
def marksB (k n : Nat) : List Int := (List.range n).map fun i => (((k + i) % 256 : Nat) : Int)
theorem marksB_len (k n : Nat) : (marksB k n).length = n := by simp [marksB]
theorem marksB_at (k n i : Nat) (h : i < n) : (marksB k n).getD i 0 = (((k + i) % 256 : Nat) : Int) := by
  rw [List.getD_eq_getElem?_getD, List.getElem?_eq_getElem (by rw [marksB_len]; exact h)]
  simp [marksB]
section
variable (w : World)
set_option maxHeartbeats 1000000 in
theorem eqByteS (A A' : Option Addr) (c c' : Nat) (xs : List Int) (hr : kByte.C w A xs.length xs) (hr' : kByte.C w A' xs.length xs) (hm : xs.length ≤ 4000000) : Calls Tryz.prog 8 #[.slice A xs.length c, .slice A' xs.length c'] w fun e w' => e = .returned (.bool true) ∧ Below w.heap.size w w' := by
  have HR := Aside0.mk hr; have HR' := Aside0.mk hr'; clear hr hr'
  go_enter Tryz.func8, Tryz.ntmps8
  go_wp2_with fail
  go_loopg [5] (xs.length + 1) (fun q v wr => ∃ k, q = xs.length + 1 - k ∧ k ≤ xs.length ∧ v = .int .i64 k ∧ Aside0 (Below w.heap.size w wr))
  case atStart => exact ⟨0, by omega, by omega, rfl, ⟨Below.refl _ _⟩⟩
  case round =>
    obtain ⟨k, rfl, hk, rfl, HB⟩ := hrel
    by_cases hlt : k < xs.length
    · obtain ⟨ad, e0, h0, h1⟩ := Kd.flat_cells (d := kByte) rfl (Kd.C_below HR.out HB.out) 0 k hlt
      obtain ⟨ad', e0', g0, g1⟩ := Kd.flat_cells (d := kByte) rfl (Kd.C_below HR'.out HB.out) 0 k hlt
      cases e0; cases e0'
      generalize xs.getD k 0 = x at h0 h1 g0 g1
      have c0 := h0 _ rfl; have d0 := g0 _ rfl
      simp only [Nat.mul_one] at c0 d0
      clear h0 h1 g0 g1
      have p0 : (x == x) = true := by simp
      go_wp2_with fail
      go_quiet (fail)
      go_wp2
      go_roundg (xs.length + 1 - (k + 1))
      case measure => omega
      case rel => exact ⟨k + 1, rfl, hlt, by go_num, ⟨pw_below_drewN HB.out _⟩⟩
    · go_wp2
      go_ret
      exact ⟨rfl, HB.out⟩
set_option maxRecDepth 100000 in
set_option maxHeartbeats 2000000 in
theorem markByteS (w0 : World) (A : Option Addr) (c : Nat) (xs : List Int) (k : Nat) (hk : k + xs.length ≤ 1000000000) (hr : kByte.R 5 w w0.heap.size (fun _ => True) (.slice A xs.length c) xs) (hb : Below w0.heap.size w0 w) :
    Calls Tryz.prog 9 #[.slice A xs.length c, .int .i64 k] w fun e w' => e = .returned (.int .i64 ((k + xs.length : Nat) : Int)) ∧ kByte.R 5 w' w0.heap.size (fun _ => True) (.slice A xs.length c) (marksB k xs.length) ∧ Below w0.heap.size w0 w' ∧ w.grownBy w' (Value.slice A xs.length c).ownBlock := by
  have HR := Aside0.mk hr; have HB := Aside0.mk hb; clear hr hb
  obtain ⟨ms, hms⟩ : ∃ ms, ms = marksB k xs.length := ⟨_, rfl⟩
  have HLEN := Aside0.mk (show xs.length = ms.length by rw [hms, marksB_len])
  have HMS := Aside0.mk hms; clear hms
  go_enter Tryz.func9, Tryz.ntmps9
  go_wp2_with fail
  go_loopg [1, 5] (xs.length + 1) (fun q v1 v5 wr => ∃ (j : Nat) (ys : List Int), q = xs.length + 1 - j ∧ j ≤ xs.length ∧ v1 = .int .i64 ((k + j : Nat) : Int) ∧ v5 = .int .i64 j ∧ Aside0 (Filled ms j ys) ∧ Aside0 (kByte.R 5 wr w0.heap.size (fun _ => True) (.slice A xs.length c) ys) ∧ Aside0 (Below w0.heap.size w0 wr) ∧ Aside0 (w.grownBy wr (Value.slice A xs.length c).ownBlock))
  case atStart => exact ⟨0, xs, by omega, by omega, rfl, rfl, ⟨HLEN.out, fun j hj => absurd hj (Nat.not_lt_zero _)⟩, HR, HB, ⟨World.grownBy.refl w _⟩⟩
  case round =>
    obtain ⟨j, ys, rfl, hj, rfl, rfl, HF, HO, HBk, HG⟩ := hrel
    clear HR HB
    by_cases hlt : j < xs.length
    · have HF1 := Aside0.mk (HF.out.step (z := 0) (by have := HLEN.out; omega))
      have HM := Aside0.mk (show ms.getD j 0 = ((k : Int) + (j : Int)) % 256 by rw [HMS.out, marksB_at k _ j hlt]; omega)
      obtain ⟨g, cap, e0, hg, _, _⟩ := Kd.R_form HO.out (by rw [HF.out.1]; have := HLEN.out; omega)
      simp only [Value.slice.injEq] at e0
      obtain ⟨rfl, hyl, rfl⟩ := e0
      have hjy : j < ys.length := by omega
      have HYL := Aside0.mk hyl; clear hyl
      have HO' := Aside0.mk (show kByte.R 5 wr w0.heap.size (fun _ => True) (.slice (some ⟨g, 0, none⟩) xs.length c) ys from HO.out)
      go_wp2_with ((with_reducible refine gate_store (t := 5) (p := 16) rfl ?_); refine Kd.flat_store kByte rfl rfl rfl 5 _ _ rfl j (((k : Int) + (j : Int)) % 256) rfl (Nat.mul_one j).symm rfl (by kernel_rfl) HO'.out hlt HBk.out ?_; intro w3 hr3 hb3 hg3; have HO1 := Aside0.mk hr3; have HB1 := Aside0.mk hb3; have HG1 := Aside0.mk (World.grownBy.trans HG.out hg3); clear hr3 hb3 hg3)
      go_roundg (xs.length + 1 - (j + 1))
      case measure => omega
      case rel => exact ⟨j + 1, _, rfl, hlt, by show Value.int .i64 _ = Value.int .i64 _; congr 1, by go_num, HF1, ⟨by rw [HM.out]; exact HO1.out⟩, HB1, HG1⟩
    · have hjl : j = xs.length := by omega
      subst hjl
      go_wp2
      go_ret
      exact ⟨rfl, by rw [← HMS.out, ← HF.out.done (by have := HLEN.out; omega)]; exact HO.out, HBk.out, HG.out⟩
theorem R_other {α : Type} {d : Kd α} {e base : Nat} {ok : Nat → Prop} {W W1 : World} {v : Value} {xs : List α} {row : Option Nat} {T' : TypeId} (h : d.R e W base ok v xs) (hg : W.grownBy W1 row) (hrow : ∀ i, row = some i → ∃ (cs : Array Value) (fr : Nat × Nat), W.heap[i]? = some (Obj.cells cs T' fr)) (hne : T' ∉ e :: d.E) : d.R e W1 base (fun _ => True) v xs := by
  refine Kd.R_mono (Kd.R_grown (Kd.R_mono (Kd.R_bound h) (ok' := fun k => some k ≠ row) ?_) hg (fun k hk => hk)) fun _ _ => trivial
  rintro k ⟨_, _, _, q, hq, cells, hc⟩ he
  obtain ⟨cs, fr, h2⟩ := hrow k he.symm
  rw [hc] at h2
  cases h2
  exact hne hq
theorem row_ty {α : Type} {d : Kd α} {e base : Nat} {ok : Nat → Prop} {W : World} {v : Value} {xs : List α} (h : d.R e W base ok v xs) : ∀ i, v.ownBlock = some i → ∃ (cs : Array Value) (fr : Nat × Nat), W.heap[i]? = some (Obj.cells cs e fr) := fun i hi => by
  obtain ⟨inner, ho⟩ := Kd.R_own h
  obtain ⟨cells, hc⟩ := own_typed ho i hi
  exact ⟨cells, _, hc⟩
set_option maxHeartbeats 1000000 in
theorem toByteS (A : Option Addr) (c : Nat) (xs : List Int) (hr : kByte.C w A xs.length xs) (hm : xs.length ≤ 1048576) : Calls Tryz.prog 5 #[.slice A xs.length c] w fun e w' => ∃ v, e = .returned v ∧ kByte.R 5 w' w.heap.size (fun _ => True) v xs ∧ Below w.heap.size w w' := by
  have HR := Aside0.mk hr; clear hr
  go_enter Tryz.func5, Tryz.ntmps5
  go_wp2_with (refine Kd.flat_make kByte rfl 7 rfl rfl 22 _ _ rfl xs.length rfl rfl 5 Tryz.underlying22 0 1 (by kernel_rfl) (by decide) (by decide) (by omega) (Below.refl _ _) ?_; intro v1 w1 hr1 hb1 _)
  have HR1 := Aside0.mk hr1; have HB1 := Aside0.mk hb1; clear hr1 hb1
  go_loopg [4] (xs.length + 1) (fun q v4 wr => ∃ k ys, q = xs.length + 1 - k ∧ k ≤ xs.length ∧ v4 = .int .i64 k ∧ Aside0 (Filled xs k ys) ∧ Aside0 (kByte.R 5 wr w.heap.size (fun _ => True) v1 ys) ∧ Aside0 (Below w.heap.size w wr))
  case atStart => exact ⟨0, _, by omega, by omega, rfl, ⟨Filled.zero xs 0⟩, HR1, HB1⟩
  case round =>
    obtain ⟨k, ys, rfl, hk, rfl, HF, HO, HB⟩ := hrel
    clear HR1 HB1
    by_cases hlt : k < xs.length
    · have hf := HF.out.step hlt 0
      obtain ⟨ad, e0, h0, h1⟩ := Kd.flat_cells (d := kByte) rfl (Kd.C_below HR.out HB.out) 0 k hlt
      cases e0
      generalize xs.getD k 0 = x at hf h0 h1
      have HF1 := Aside0.mk hf; clear hf
      have c0 := h0 _ rfl; simp only [Nat.mul_one] at c0
      clear h0 h1
      obtain ⟨g, cap, rfl, hg, _, _⟩ := Kd.R_form HO.out (by rw [HF.out.1]; omega)
      have hky : k < ys.length := by rw [HF.out.1]; exact hlt
      go_wp2_with (first | ((with_reducible refine gate_store (t := 5) (p := 20) rfl ?_); refine Kd.flat_store kByte rfl rfl rfl 5 _ _ rfl k x rfl (Nat.mul_one k).symm rfl (by kernel_rfl) HO.out hky HB.out ?_; intro w3 hr3 hb3 _; have HO1 := Aside0.mk hr3; have HB1 := Aside0.mk hb3; clear hr3 hb3))
      go_roundg (xs.length + 1 - (k + 1))
      case measure => omega
      case rel => exact ⟨k + 1, _, rfl, hlt, by go_num, HF1, HO1, HB1⟩
    · go_wp2
      go_ret
      exact ⟨_, rfl, by rw [← HF.out.done (by omega)]; exact HO.out, HB.out⟩
/-- The cells of a row hold k, k + 1, .. -/
def MarkedAt (W : World) (A : Option Addr) (T : TypeId) (n k : Nat) : Prop := n = 0 ∨ ∃ (g : Nat) (cs : Array Value), A = some ⟨g, 0, none⟩ ∧ W.heap[g]? = some (.cells cs T (0, 0)) ∧ ∀ i, i < n → cs[i]? = some (.int .i64 ((k + i : Nat) : Int))
theorem MarkedAt.grown {W W1 : World} {A : Option Addr} {T T' : TypeId} {n k : Nat} {row : Option Nat} (h : MarkedAt W A T n k) (hg : W.grownBy W1 row) (hrow : ∀ i, row = some i → ∃ (cs : Array Value) (fr : Nat × Nat), W.heap[i]? = some (Obj.cells cs T' fr)) (hne : T ≠ T') : MarkedAt W1 A T n k := by
  rcases h with h | ⟨g, cs, e, hg0, hc⟩
  · exact Or.inl h
  · refine Or.inr ⟨g, cs, e, (hg.block g (blk_lt' hg0) ?_).trans hg0, hc⟩
    intro e'
    obtain ⟨cs', fr, h2⟩ := hrow g e'.symm
    rw [hg0] at h2
    cases h2
    exact hne rfl
theorem MarkedAt.below {W W1 : World} {A : Option Addr} {T : TypeId} {n k : Nat} (h : MarkedAt W A T n k) (hb : Below W.heap.size W W1) : MarkedAt W1 A T n k := by
  rcases h with h | ⟨g, cs, e, hg0, hc⟩
  · exact Or.inl h
  · exact Or.inr ⟨g, cs, e, blk_below hg0 hb, hc⟩
theorem sb_ne {cs : Array Value} {i j : Nat} {v : Value} {r : Option Value} (h : i ≠ j) (hr : cs[j]? = r) : (cs.setIfInBounds i v)[j]? = r := (Array.getElem?_setIfInBounds_ne h).trans hr
theorem sb_eq {cs : Array Value} {i j : Nat} {v r : Value} (h : i = j) (hl : j < cs.size) (hr : v = r) : (cs.setIfInBounds i v)[j]? = some r := by subst h; subst hr; exact Array.getElem?_setIfInBounds_self_of_lt hl
set_option maxHeartbeats 2000000 in
theorem marks_at7 (cs : Array Value) (K b d : Nat) (hd : d < 7) (hs : ∀ d, d < 7 → b + d < cs.size) : (((((((cs.setIfInBounds (b) (.int .i64 (K : Int))).setIfInBounds (b + 1) (.int .i64 (K + 1 : Int))).setIfInBounds (b + 2) (.int .i64 (K + 1 + 1 : Int))).setIfInBounds (b + 3) (.int .i64 (K + 1 + 1 + 1 : Int))).setIfInBounds (b + 4) (.int .i64 (K + 1 + 1 + 1 + 1 : Int))).setIfInBounds (b + 5) (.int .i64 (K + 1 + 1 + 1 + 1 + 1 : Int))).setIfInBounds (b + 6) (.int .i64 (K + 1 + 1 + 1 + 1 + 1 + 1 : Int)))[b + d]? = some (Value.int .i64 ((K + d : Nat) : Int)) := by
  have h7 := hs d hd
  rcases (show d = 0 ∨ d = 1 ∨ d = 2 ∨ d = 3 ∨ d = 4 ∨ d = 5 ∨ d = 6 by omega) with rfl | rfl | rfl | rfl | rfl | rfl | rfl
  · exact sb_ne (by omega) (sb_ne (by omega) (sb_ne (by omega) (sb_ne (by omega) (sb_ne (by omega) (sb_ne (by omega) (sb_eq rfl (by (try simp only [Array.size_setIfInBounds]); exact h7) (congrArg (fun z : Int => Value.int IntKind.i64 z) (by omega))))))))
  · exact sb_ne (by omega) (sb_ne (by omega) (sb_ne (by omega) (sb_ne (by omega) (sb_ne (by omega) (sb_eq rfl (by (try simp only [Array.size_setIfInBounds]); exact h7) (congrArg (fun z : Int => Value.int IntKind.i64 z) (by omega)))))))
  · exact sb_ne (by omega) (sb_ne (by omega) (sb_ne (by omega) (sb_ne (by omega) (sb_eq rfl (by (try simp only [Array.size_setIfInBounds]); exact h7) (congrArg (fun z : Int => Value.int IntKind.i64 z) (by omega))))))
  · exact sb_ne (by omega) (sb_ne (by omega) (sb_ne (by omega) (sb_eq rfl (by (try simp only [Array.size_setIfInBounds]); exact h7) (congrArg (fun z : Int => Value.int IntKind.i64 z) (by omega)))))
  · exact sb_ne (by omega) (sb_ne (by omega) (sb_eq rfl (by (try simp only [Array.size_setIfInBounds]); exact h7) (congrArg (fun z : Int => Value.int IntKind.i64 z) (by omega))))
  · exact sb_ne (by omega) (sb_eq rfl (by (try simp only [Array.size_setIfInBounds]); exact h7) (congrArg (fun z : Int => Value.int IntKind.i64 z) (by omega)))
  · exact sb_eq rfl (by (try simp only [Array.size_setIfInBounds]); exact h7) (congrArg (fun z : Int => Value.int IntKind.i64 z) (by omega))
set_option maxRecDepth 100000 in
set_option maxHeartbeats 4000000 in
theorem markVehicleC (base : Nat) (ok : Nat → Prop) (A : Option Addr) (c : Nat) (xs : List Veh) (k : Nat) (hk : k + 7 * xs.length ≤ 1000000000) (hr : kVeh.R 60 w base ok (.slice A xs.length c) xs) :
    Calls Tryz.prog 52 #[.slice A xs.length c, .int .i64 k] w fun e w' => e = .returned (.int .i64 ((k + 7 * xs.length : Nat) : Int)) ∧ w.grownBy w' (Value.slice A xs.length c).ownBlock ∧ MarkedAt w' A 60 (7 * xs.length) k := by
  rcases Nat.eq_zero_or_pos xs.length with hz | hz
  · have HZ := Aside0.mk hz
    rw [hz]
    clear hr hk hz
    go_enter Tryz.func52, Tryz.ntmps52
    go_wp2_with fail
    go_loopg [1, 5] 1 (fun q v1 v5 wr => q = 1 ∧ v1 = .int .i64 k ∧ v5 = .int .i64 0 ∧ wr = w)
    case atStart => exact ⟨rfl, rfl, rfl, rfl⟩
    case round =>
      obtain ⟨rfl, rfl, rfl, rfl⟩ := hrel
      go_wp2
      go_ret
      exact ⟨rfl, World.grownBy.refl _ _, Or.inl rfl⟩
  obtain ⟨g, cap, e0, _, _, cs0, hg0⟩ := Kd.R_form hr hz
  simp only [Value.slice.injEq, true_and] at e0
  obtain ⟨rfl, rfl⟩ := e0
  have hC := (Kd.R_reads' hr).2.2
  have hN : ∀ i, i < 7 * xs.length → i < cs0.size := by
    intro i hi
    obtain ⟨ad, e1, hc⟩ := Kd.flat_at (n := 7) (enc := Veh.enc) hC zV (i / 7) (by omega)
    cases e1
    have h4 : i % 7 < (Veh.enc (xs.getD (i / 7) zV)).length := by show i % 7 < 7; omega
    have := hc (i % 7) _ (List.getElem?_eq_getElem h4)
    rw [show i / 7 * 7 + i % 7 = i by omega, Addr.add_lit, Nat.zero_add, blk_cell hg0] at this
    exact (Array.getElem?_eq_some_iff.1 this).1
  have HN := Aside0.mk hN; have HG0 := Aside0.mk hg0; clear hN hC hr
  go_enter Tryz.func52, Tryz.ntmps52
  go_wp2_with fail
  go_loopg [1, 5] (xs.length + 1) (fun q v1 v5 wr => ∃ (j : Nat) (cs : Array Value), q = xs.length + 1 - j ∧ j ≤ xs.length ∧ v1 = .int .i64 ((k + 7 * j : Nat) : Int) ∧ v5 = .int .i64 j ∧ cs.size = cs0.size ∧ Aside0 (wr.heap[g]? = some (.cells cs 60 (0, 0))) ∧ Aside0 (w.grownBy wr (some g)) ∧ Aside0 (∀ i, i < 7 * j → cs[i]? = some (.int .i64 ((k + i : Nat) : Int))))
  case atStart => exact ⟨0, cs0, by omega, by omega, rfl, rfl, rfl, HG0, ⟨World.grownBy.refl w _⟩, ⟨fun i hi => absurd hi (Nat.not_lt_zero _)⟩⟩
  case round =>
    obtain ⟨j, cs, rfl, hj, rfl, rfl, hcs, HGk, HWk, HMk⟩ := hrel
    by_cases hlt : j < xs.length
    · obtain ⟨b1, b2⟩ := lay (Below.refl _ _) HGk.out
      obtain ⟨K, hK⟩ : ∃ K, K = k + 7 * j := ⟨_, rfl⟩
      rw [← hK]
      have HK := Aside0.mk hK
      have hKb : K ≤ 1000000000 := by omega
      clear hK
      obtain ⟨u0, h0⟩ : ∃ u, cs[j * 7]? = some u := ⟨_, Array.getElem?_eq_getElem (by rw [hcs]; exact HN.out _ (by omega))⟩
      have z0 := (b1 (j * 7)).trans h0
      have f0 := b2 (j * 7)
      clear h0
      obtain ⟨u1, h1⟩ : ∃ u, cs[j * 7 + 1]? = some u := ⟨_, Array.getElem?_eq_getElem (by rw [hcs]; exact HN.out _ (by omega))⟩
      have z1 := (b1 (j * 7 + 1)).trans h1
      have f1 := b2 (j * 7 + 1)
      clear h1
      obtain ⟨u2, h2⟩ : ∃ u, cs[j * 7 + 2]? = some u := ⟨_, Array.getElem?_eq_getElem (by rw [hcs]; exact HN.out _ (by omega))⟩
      have z2 := (b1 (j * 7 + 2)).trans h2
      have f2 := b2 (j * 7 + 2)
      clear h2
      obtain ⟨u3, h3⟩ : ∃ u, cs[j * 7 + 3]? = some u := ⟨_, Array.getElem?_eq_getElem (by rw [hcs]; exact HN.out _ (by omega))⟩
      have z3 := (b1 (j * 7 + 3)).trans h3
      have f3 := b2 (j * 7 + 3)
      clear h3
      obtain ⟨u4, h4⟩ : ∃ u, cs[j * 7 + 4]? = some u := ⟨_, Array.getElem?_eq_getElem (by rw [hcs]; exact HN.out _ (by omega))⟩
      have z4 := (b1 (j * 7 + 4)).trans h4
      have f4 := b2 (j * 7 + 4)
      clear h4
      obtain ⟨u5, h5⟩ : ∃ u, cs[j * 7 + 5]? = some u := ⟨_, Array.getElem?_eq_getElem (by rw [hcs]; exact HN.out _ (by omega))⟩
      have z5 := (b1 (j * 7 + 5)).trans h5
      have f5 := b2 (j * 7 + 5)
      clear h5
      obtain ⟨u6, h6⟩ : ∃ u, cs[j * 7 + 6]? = some u := ⟨_, Array.getElem?_eq_getElem (by rw [hcs]; exact HN.out _ (by omega))⟩
      have z6 := (b1 (j * 7 + 6)).trans h6
      have f6 := b2 (j * 7 + 6)
      clear h6
      clear b1 b2
      have HCS := Aside0.mk hcs; clear hcs
      go_wp2_with fail
      go_roundg (xs.length + 1 - (j + 1))
      case measure => omega
      case rel =>
        refine ⟨j + 1, (((((((cs.setIfInBounds (j * 7) (.int .i64 (K : Int))).setIfInBounds (j * 7 + 1) (.int .i64 (K + 1 : Int))).setIfInBounds (j * 7 + 2) (.int .i64 (K + 1 + 1 : Int))).setIfInBounds (j * 7 + 3) (.int .i64 (K + 1 + 1 + 1 : Int))).setIfInBounds (j * 7 + 4) (.int .i64 (K + 1 + 1 + 1 + 1 : Int))).setIfInBounds (j * 7 + 5) (.int .i64 (K + 1 + 1 + 1 + 1 + 1 : Int))).setIfInBounds (j * 7 + 6) (.int .i64 (K + 1 + 1 + 1 + 1 + 1 + 1 : Int))), rfl, hlt, by show Value.int .i64 _ = Value.int .i64 _; congr 1; have := HK.out; omega, by go_num, by simp only [Array.size_setIfInBounds]; exact HCS.out, ⟨(blk_set (blk_set (blk_set (blk_set (blk_set (blk_set (blk_set HGk.out (j * 7) (.int .i64 (K : Int))) (j * 7 + 1) (.int .i64 (K + 1 : Int))) (j * 7 + 2) (.int .i64 (K + 1 + 1 : Int))) (j * 7 + 3) (.int .i64 (K + 1 + 1 + 1 : Int))) (j * 7 + 4) (.int .i64 (K + 1 + 1 + 1 + 1 : Int))) (j * 7 + 5) (.int .i64 (K + 1 + 1 + 1 + 1 + 1 : Int))) (j * 7 + 6) (.int .i64 (K + 1 + 1 + 1 + 1 + 1 + 1 : Int)))⟩, ⟨(grown_set (grown_set (grown_set (grown_set (grown_set (grown_set (grown_set HWk.out _ _) _ _) _ _) _ _) _ _) _ _) _ _)⟩, ⟨fun i hi => ?_⟩⟩
        have hk := HK.out
        have hN := HN.out
        have hS := HCS.out
        rcases Nat.lt_or_ge i (7 * j) with h | h
        · rw [Array.getElem?_setIfInBounds_ne (by omega), Array.getElem?_setIfInBounds_ne (by omega), Array.getElem?_setIfInBounds_ne (by omega), Array.getElem?_setIfInBounds_ne (by omega), Array.getElem?_setIfInBounds_ne (by omega), Array.getElem?_setIfInBounds_ne (by omega), Array.getElem?_setIfInBounds_ne (by omega)]
          exact HMk.out i h
        · obtain ⟨d, rfl⟩ : ∃ d, i = j * 7 + d := ⟨i - j * 7, by omega⟩
          have hd : d < 7 := by omega
          have hb : j * 7 + d < cs.size := by rw [hS]; exact hN _ (by omega)
          rw [show (((k + (j * 7 + d) : Nat)) : Int) = ((K + d : Nat) : Int) by rw [hk]; congr 1; omega]
          exact marks_at7 cs K (j * 7) d hd (fun d' h' => by rw [hS]; exact hN _ (by omega))
    · have hjl : j = xs.length := by omega
      subst hjl
      go_wp2
      go_ret
      exact ⟨rfl, HWk.out, Or.inr ⟨g, cs, rfl, HGk.out, HMk.out⟩⟩
set_option maxRecDepth 100000 in
set_option maxHeartbeats 4000000 in
theorem heldVehicleS (A : Option Addr) (c n k : Nat) (hk : k + 7 * n ≤ 1000000000) (hr : MarkedAt w A 60 (7 * n) k) :
    Calls Tryz.prog 55 #[.slice A n c, .int .i64 k] w fun e w' => e = .returned (.int .i64 ((k + 7 * n : Nat) : Int)) ∧ w' = w := by
  rcases Nat.eq_zero_or_pos n with rfl | hz
  · clear hr hk
    go_enter Tryz.func55, Tryz.ntmps55
    go_wp2_with fail
    go_loopg [1, 5] 1 (fun q v1 v5 wr => q = 1 ∧ v1 = .int .i64 k ∧ v5 = .int .i64 0 ∧ wr = w)
    case atStart => exact ⟨rfl, rfl, rfl, rfl⟩
    case round =>
      obtain ⟨rfl, rfl, rfl, rfl⟩ := hrel
      go_wp2
      go_ret
      exact ⟨rfl, rfl⟩
  rcases hr with hr | ⟨g, cs, rfl, hg0, hM⟩
  · omega
  have HG0 := Aside0.mk hg0; have HM := Aside0.mk hM; clear hg0 hM
  go_enter Tryz.func55, Tryz.ntmps55
  go_wp2_with fail
  go_loopg [1, 5] (n + 1) (fun q v1 v5 wr => ∃ j : Nat, q = n + 1 - j ∧ j ≤ n ∧ v1 = .int .i64 ((k + 7 * j : Nat) : Int) ∧ v5 = .int .i64 j ∧ wr = w)
  case atStart => exact ⟨0, by omega, by omega, rfl, rfl, rfl⟩
  case round =>
    obtain ⟨j, rfl, hj, rfl, rfl, rfl⟩ := hrel
    by_cases hlt : j < n
    · obtain ⟨b1, b2⟩ := lay (Below.refl _ _) HG0.out
      obtain ⟨K, hK⟩ : ∃ K, K = k + 7 * j := ⟨_, rfl⟩
      rw [← hK]
      have HK := Aside0.mk hK
      have hKb : K ≤ 1000000000 := by omega
      clear hK
      have z0 : wr.cell? ⟨g, j * 7, none⟩ = some (.int .i64 (K : Int)) := (b1 (j * 7)).trans ((HM.out _ (by omega)).trans (by congr 2; have := HK.out; omega))
      have z1 : wr.cell? ⟨g, j * 7 + 1, none⟩ = some (.int .i64 (K + 1 : Int)) := (b1 (j * 7 + 1)).trans ((HM.out _ (by omega)).trans (by congr 2; have := HK.out; omega))
      have z2 : wr.cell? ⟨g, j * 7 + 2, none⟩ = some (.int .i64 (K + 1 + 1 : Int)) := (b1 (j * 7 + 2)).trans ((HM.out _ (by omega)).trans (by congr 2; have := HK.out; omega))
      have z3 : wr.cell? ⟨g, j * 7 + 3, none⟩ = some (.int .i64 (K + 1 + 1 + 1 : Int)) := (b1 (j * 7 + 3)).trans ((HM.out _ (by omega)).trans (by congr 2; have := HK.out; omega))
      have z4 : wr.cell? ⟨g, j * 7 + 4, none⟩ = some (.int .i64 (K + 1 + 1 + 1 + 1 : Int)) := (b1 (j * 7 + 4)).trans ((HM.out _ (by omega)).trans (by congr 2; have := HK.out; omega))
      have z5 : wr.cell? ⟨g, j * 7 + 5, none⟩ = some (.int .i64 (K + 1 + 1 + 1 + 1 + 1 : Int)) := (b1 (j * 7 + 5)).trans ((HM.out _ (by omega)).trans (by congr 2; have := HK.out; omega))
      have z6 : wr.cell? ⟨g, j * 7 + 6, none⟩ = some (.int .i64 (K + 1 + 1 + 1 + 1 + 1 + 1 : Int)) := (b1 (j * 7 + 6)).trans ((HM.out _ (by omega)).trans (by congr 2; have := HK.out; omega))
      clear b1 b2
      go_wp2
      go_roundg (n + 1 - (j + 1))
      case measure => omega
      case rel => exact ⟨j + 1, rfl, hlt, by show Value.int .i64 _ = Value.int .i64 _; congr 1; have := HK.out; omega, by go_num, rfl⟩
    · have hjl : j = n := by omega
      subst hjl
      go_wp2
      go_ret
      exact ⟨rfl, rfl⟩
set_option maxHeartbeats 2000000 in
theorem marks_at12 (cs : Array Value) (K b d : Nat) (hd : d < 12) (hs : ∀ d, d < 12 → b + d < cs.size) : ((((((((((((cs.setIfInBounds (b) (.int .i64 (K : Int))).setIfInBounds (b + 1) (.int .i64 (K + 1 : Int))).setIfInBounds (b + 2) (.int .i64 (K + 1 + 1 : Int))).setIfInBounds (b + 3) (.int .i64 (K + 1 + 1 + 1 : Int))).setIfInBounds (b + 4) (.int .i64 (K + 1 + 1 + 1 + 1 : Int))).setIfInBounds (b + 5) (.int .i64 (K + 1 + 1 + 1 + 1 + 1 : Int))).setIfInBounds (b + 6) (.int .i64 (K + 1 + 1 + 1 + 1 + 1 + 1 : Int))).setIfInBounds (b + 7) (.int .i64 (K + 1 + 1 + 1 + 1 + 1 + 1 + 1 : Int))).setIfInBounds (b + 8) (.int .i64 (K + 1 + 1 + 1 + 1 + 1 + 1 + 1 + 1 : Int))).setIfInBounds (b + 9) (.int .i64 (K + 1 + 1 + 1 + 1 + 1 + 1 + 1 + 1 + 1 : Int))).setIfInBounds (b + 10) (.int .i64 (K + 1 + 1 + 1 + 1 + 1 + 1 + 1 + 1 + 1 + 1 : Int))).setIfInBounds (b + 11) (.int .i64 (K + 1 + 1 + 1 + 1 + 1 + 1 + 1 + 1 + 1 + 1 + 1 : Int)))[b + d]? = some (Value.int .i64 ((K + d : Nat) : Int)) := by
  have h12 := hs d hd
  rcases (show d = 0 ∨ d = 1 ∨ d = 2 ∨ d = 3 ∨ d = 4 ∨ d = 5 ∨ d = 6 ∨ d = 7 ∨ d = 8 ∨ d = 9 ∨ d = 10 ∨ d = 11 by omega) with rfl | rfl | rfl | rfl | rfl | rfl | rfl | rfl | rfl | rfl | rfl | rfl
  · exact sb_ne (by omega) (sb_ne (by omega) (sb_ne (by omega) (sb_ne (by omega) (sb_ne (by omega) (sb_ne (by omega) (sb_ne (by omega) (sb_ne (by omega) (sb_ne (by omega) (sb_ne (by omega) (sb_ne (by omega) (sb_eq rfl (by (try simp only [Array.size_setIfInBounds]); exact h12) (congrArg (fun z : Int => Value.int IntKind.i64 z) (by omega)))))))))))))
  · exact sb_ne (by omega) (sb_ne (by omega) (sb_ne (by omega) (sb_ne (by omega) (sb_ne (by omega) (sb_ne (by omega) (sb_ne (by omega) (sb_ne (by omega) (sb_ne (by omega) (sb_ne (by omega) (sb_eq rfl (by (try simp only [Array.size_setIfInBounds]); exact h12) (congrArg (fun z : Int => Value.int IntKind.i64 z) (by omega))))))))))))
  · exact sb_ne (by omega) (sb_ne (by omega) (sb_ne (by omega) (sb_ne (by omega) (sb_ne (by omega) (sb_ne (by omega) (sb_ne (by omega) (sb_ne (by omega) (sb_ne (by omega) (sb_eq rfl (by (try simp only [Array.size_setIfInBounds]); exact h12) (congrArg (fun z : Int => Value.int IntKind.i64 z) (by omega)))))))))))
  · exact sb_ne (by omega) (sb_ne (by omega) (sb_ne (by omega) (sb_ne (by omega) (sb_ne (by omega) (sb_ne (by omega) (sb_ne (by omega) (sb_ne (by omega) (sb_eq rfl (by (try simp only [Array.size_setIfInBounds]); exact h12) (congrArg (fun z : Int => Value.int IntKind.i64 z) (by omega))))))))))
  · exact sb_ne (by omega) (sb_ne (by omega) (sb_ne (by omega) (sb_ne (by omega) (sb_ne (by omega) (sb_ne (by omega) (sb_ne (by omega) (sb_eq rfl (by (try simp only [Array.size_setIfInBounds]); exact h12) (congrArg (fun z : Int => Value.int IntKind.i64 z) (by omega)))))))))
  · exact sb_ne (by omega) (sb_ne (by omega) (sb_ne (by omega) (sb_ne (by omega) (sb_ne (by omega) (sb_ne (by omega) (sb_eq rfl (by (try simp only [Array.size_setIfInBounds]); exact h12) (congrArg (fun z : Int => Value.int IntKind.i64 z) (by omega))))))))
  · exact sb_ne (by omega) (sb_ne (by omega) (sb_ne (by omega) (sb_ne (by omega) (sb_ne (by omega) (sb_eq rfl (by (try simp only [Array.size_setIfInBounds]); exact h12) (congrArg (fun z : Int => Value.int IntKind.i64 z) (by omega)))))))
  · exact sb_ne (by omega) (sb_ne (by omega) (sb_ne (by omega) (sb_ne (by omega) (sb_eq rfl (by (try simp only [Array.size_setIfInBounds]); exact h12) (congrArg (fun z : Int => Value.int IntKind.i64 z) (by omega))))))
  · exact sb_ne (by omega) (sb_ne (by omega) (sb_ne (by omega) (sb_eq rfl (by (try simp only [Array.size_setIfInBounds]); exact h12) (congrArg (fun z : Int => Value.int IntKind.i64 z) (by omega)))))
  · exact sb_ne (by omega) (sb_ne (by omega) (sb_eq rfl (by (try simp only [Array.size_setIfInBounds]); exact h12) (congrArg (fun z : Int => Value.int IntKind.i64 z) (by omega))))
  · exact sb_ne (by omega) (sb_eq rfl (by (try simp only [Array.size_setIfInBounds]); exact h12) (congrArg (fun z : Int => Value.int IntKind.i64 z) (by omega)))
  · exact sb_eq rfl (by (try simp only [Array.size_setIfInBounds]); exact h12) (congrArg (fun z : Int => Value.int IntKind.i64 z) (by omega))
set_option maxRecDepth 100000 in
set_option maxHeartbeats 4000000 in
theorem markRequestC (base : Nat) (ok : Nat → Prop) (A : Option Addr) (c : Nat) (xs : List Req) (k : Nat) (hk : k + 12 * xs.length ≤ 1000000000) (hr : kReq.R 63 w base ok (.slice A xs.length c) xs) :
    Calls Tryz.prog 53 #[.slice A xs.length c, .int .i64 k] w fun e w' => e = .returned (.int .i64 ((k + 12 * xs.length : Nat) : Int)) ∧ w.grownBy w' (Value.slice A xs.length c).ownBlock ∧ MarkedAt w' A 63 (12 * xs.length) k := by
  rcases Nat.eq_zero_or_pos xs.length with hz | hz
  · have HZ := Aside0.mk hz
    rw [hz]
    clear hr hk hz
    go_enter Tryz.func53, Tryz.ntmps53
    go_wp2_with fail
    go_loopg [1, 5] 1 (fun q v1 v5 wr => q = 1 ∧ v1 = .int .i64 k ∧ v5 = .int .i64 0 ∧ wr = w)
    case atStart => exact ⟨rfl, rfl, rfl, rfl⟩
    case round =>
      obtain ⟨rfl, rfl, rfl, rfl⟩ := hrel
      go_wp2
      go_ret
      exact ⟨rfl, World.grownBy.refl _ _, Or.inl rfl⟩
  obtain ⟨g, cap, e0, _, _, cs0, hg0⟩ := Kd.R_form hr hz
  simp only [Value.slice.injEq, true_and] at e0
  obtain ⟨rfl, rfl⟩ := e0
  have hC := (Kd.R_reads' hr).2.2
  have hN : ∀ i, i < 12 * xs.length → i < cs0.size := by
    intro i hi
    obtain ⟨ad, e1, hc⟩ := Kd.flat_at (n := 12) (enc := Req.enc) hC zQ (i / 12) (by omega)
    cases e1
    have h4 : i % 12 < (Req.enc (xs.getD (i / 12) zQ)).length := by show i % 12 < 12; omega
    have := hc (i % 12) _ (List.getElem?_eq_getElem h4)
    rw [show i / 12 * 12 + i % 12 = i by omega, Addr.add_lit, Nat.zero_add, blk_cell hg0] at this
    exact (Array.getElem?_eq_some_iff.1 this).1
  have HN := Aside0.mk hN; have HG0 := Aside0.mk hg0; clear hN hC hr
  go_enter Tryz.func53, Tryz.ntmps53
  go_wp2_with fail
  go_loopg [1, 5] (xs.length + 1) (fun q v1 v5 wr => ∃ (j : Nat) (cs : Array Value), q = xs.length + 1 - j ∧ j ≤ xs.length ∧ v1 = .int .i64 ((k + 12 * j : Nat) : Int) ∧ v5 = .int .i64 j ∧ cs.size = cs0.size ∧ Aside0 (wr.heap[g]? = some (.cells cs 63 (0, 0))) ∧ Aside0 (w.grownBy wr (some g)) ∧ Aside0 (∀ i, i < 12 * j → cs[i]? = some (.int .i64 ((k + i : Nat) : Int))))
  case atStart => exact ⟨0, cs0, by omega, by omega, rfl, rfl, rfl, HG0, ⟨World.grownBy.refl w _⟩, ⟨fun i hi => absurd hi (Nat.not_lt_zero _)⟩⟩
  case round =>
    obtain ⟨j, cs, rfl, hj, rfl, rfl, hcs, HGk, HWk, HMk⟩ := hrel
    by_cases hlt : j < xs.length
    · obtain ⟨b1, b2⟩ := lay (Below.refl _ _) HGk.out
      obtain ⟨K, hK⟩ : ∃ K, K = k + 12 * j := ⟨_, rfl⟩
      rw [← hK]
      have HK := Aside0.mk hK
      have hKb : K ≤ 1000000000 := by omega
      clear hK
      obtain ⟨u0, h0⟩ : ∃ u, cs[j * 12]? = some u := ⟨_, Array.getElem?_eq_getElem (by rw [hcs]; exact HN.out _ (by omega))⟩
      have z0 := (b1 (j * 12)).trans h0
      have f0 := b2 (j * 12)
      clear h0
      obtain ⟨u1, h1⟩ : ∃ u, cs[j * 12 + 1]? = some u := ⟨_, Array.getElem?_eq_getElem (by rw [hcs]; exact HN.out _ (by omega))⟩
      have z1 := (b1 (j * 12 + 1)).trans h1
      have f1 := b2 (j * 12 + 1)
      clear h1
      obtain ⟨u2, h2⟩ : ∃ u, cs[j * 12 + 2]? = some u := ⟨_, Array.getElem?_eq_getElem (by rw [hcs]; exact HN.out _ (by omega))⟩
      have z2 := (b1 (j * 12 + 2)).trans h2
      have f2 := b2 (j * 12 + 2)
      clear h2
      obtain ⟨u3, h3⟩ : ∃ u, cs[j * 12 + 3]? = some u := ⟨_, Array.getElem?_eq_getElem (by rw [hcs]; exact HN.out _ (by omega))⟩
      have z3 := (b1 (j * 12 + 3)).trans h3
      have f3 := b2 (j * 12 + 3)
      clear h3
      obtain ⟨u4, h4⟩ : ∃ u, cs[j * 12 + 4]? = some u := ⟨_, Array.getElem?_eq_getElem (by rw [hcs]; exact HN.out _ (by omega))⟩
      have z4 := (b1 (j * 12 + 4)).trans h4
      have f4 := b2 (j * 12 + 4)
      clear h4
      obtain ⟨u5, h5⟩ : ∃ u, cs[j * 12 + 5]? = some u := ⟨_, Array.getElem?_eq_getElem (by rw [hcs]; exact HN.out _ (by omega))⟩
      have z5 := (b1 (j * 12 + 5)).trans h5
      have f5 := b2 (j * 12 + 5)
      clear h5
      obtain ⟨u6, h6⟩ : ∃ u, cs[j * 12 + 6]? = some u := ⟨_, Array.getElem?_eq_getElem (by rw [hcs]; exact HN.out _ (by omega))⟩
      have z6 := (b1 (j * 12 + 6)).trans h6
      have f6 := b2 (j * 12 + 6)
      clear h6
      obtain ⟨u7, h7⟩ : ∃ u, cs[j * 12 + 7]? = some u := ⟨_, Array.getElem?_eq_getElem (by rw [hcs]; exact HN.out _ (by omega))⟩
      have z7 := (b1 (j * 12 + 7)).trans h7
      have f7 := b2 (j * 12 + 7)
      clear h7
      obtain ⟨u8, h8⟩ : ∃ u, cs[j * 12 + 8]? = some u := ⟨_, Array.getElem?_eq_getElem (by rw [hcs]; exact HN.out _ (by omega))⟩
      have z8 := (b1 (j * 12 + 8)).trans h8
      have f8 := b2 (j * 12 + 8)
      clear h8
      obtain ⟨u9, h9⟩ : ∃ u, cs[j * 12 + 9]? = some u := ⟨_, Array.getElem?_eq_getElem (by rw [hcs]; exact HN.out _ (by omega))⟩
      have z9 := (b1 (j * 12 + 9)).trans h9
      have f9 := b2 (j * 12 + 9)
      clear h9
      obtain ⟨u10, h10⟩ : ∃ u, cs[j * 12 + 10]? = some u := ⟨_, Array.getElem?_eq_getElem (by rw [hcs]; exact HN.out _ (by omega))⟩
      have z10 := (b1 (j * 12 + 10)).trans h10
      have f10 := b2 (j * 12 + 10)
      clear h10
      obtain ⟨u11, h11⟩ : ∃ u, cs[j * 12 + 11]? = some u := ⟨_, Array.getElem?_eq_getElem (by rw [hcs]; exact HN.out _ (by omega))⟩
      have z11 := (b1 (j * 12 + 11)).trans h11
      have f11 := b2 (j * 12 + 11)
      clear h11
      clear b1 b2
      have HCS := Aside0.mk hcs; clear hcs
      go_wp2_with fail
      go_roundg (xs.length + 1 - (j + 1))
      case measure => omega
      case rel =>
        refine ⟨j + 1, ((((((((((((cs.setIfInBounds (j * 12) (.int .i64 (K : Int))).setIfInBounds (j * 12 + 1) (.int .i64 (K + 1 : Int))).setIfInBounds (j * 12 + 2) (.int .i64 (K + 1 + 1 : Int))).setIfInBounds (j * 12 + 3) (.int .i64 (K + 1 + 1 + 1 : Int))).setIfInBounds (j * 12 + 4) (.int .i64 (K + 1 + 1 + 1 + 1 : Int))).setIfInBounds (j * 12 + 5) (.int .i64 (K + 1 + 1 + 1 + 1 + 1 : Int))).setIfInBounds (j * 12 + 6) (.int .i64 (K + 1 + 1 + 1 + 1 + 1 + 1 : Int))).setIfInBounds (j * 12 + 7) (.int .i64 (K + 1 + 1 + 1 + 1 + 1 + 1 + 1 : Int))).setIfInBounds (j * 12 + 8) (.int .i64 (K + 1 + 1 + 1 + 1 + 1 + 1 + 1 + 1 : Int))).setIfInBounds (j * 12 + 9) (.int .i64 (K + 1 + 1 + 1 + 1 + 1 + 1 + 1 + 1 + 1 : Int))).setIfInBounds (j * 12 + 10) (.int .i64 (K + 1 + 1 + 1 + 1 + 1 + 1 + 1 + 1 + 1 + 1 : Int))).setIfInBounds (j * 12 + 11) (.int .i64 (K + 1 + 1 + 1 + 1 + 1 + 1 + 1 + 1 + 1 + 1 + 1 : Int))), rfl, hlt, by show Value.int .i64 _ = Value.int .i64 _; congr 1; have := HK.out; omega, by go_num, by simp only [Array.size_setIfInBounds]; exact HCS.out, ⟨(blk_set (blk_set (blk_set (blk_set (blk_set (blk_set (blk_set (blk_set (blk_set (blk_set (blk_set (blk_set HGk.out (j * 12) (.int .i64 (K : Int))) (j * 12 + 1) (.int .i64 (K + 1 : Int))) (j * 12 + 2) (.int .i64 (K + 1 + 1 : Int))) (j * 12 + 3) (.int .i64 (K + 1 + 1 + 1 : Int))) (j * 12 + 4) (.int .i64 (K + 1 + 1 + 1 + 1 : Int))) (j * 12 + 5) (.int .i64 (K + 1 + 1 + 1 + 1 + 1 : Int))) (j * 12 + 6) (.int .i64 (K + 1 + 1 + 1 + 1 + 1 + 1 : Int))) (j * 12 + 7) (.int .i64 (K + 1 + 1 + 1 + 1 + 1 + 1 + 1 : Int))) (j * 12 + 8) (.int .i64 (K + 1 + 1 + 1 + 1 + 1 + 1 + 1 + 1 : Int))) (j * 12 + 9) (.int .i64 (K + 1 + 1 + 1 + 1 + 1 + 1 + 1 + 1 + 1 : Int))) (j * 12 + 10) (.int .i64 (K + 1 + 1 + 1 + 1 + 1 + 1 + 1 + 1 + 1 + 1 : Int))) (j * 12 + 11) (.int .i64 (K + 1 + 1 + 1 + 1 + 1 + 1 + 1 + 1 + 1 + 1 + 1 : Int)))⟩, ⟨(grown_set (grown_set (grown_set (grown_set (grown_set (grown_set (grown_set (grown_set (grown_set (grown_set (grown_set (grown_set HWk.out _ _) _ _) _ _) _ _) _ _) _ _) _ _) _ _) _ _) _ _) _ _) _ _)⟩, ⟨fun i hi => ?_⟩⟩
        have hk := HK.out
        have hN := HN.out
        have hS := HCS.out
        rcases Nat.lt_or_ge i (12 * j) with h | h
        · rw [Array.getElem?_setIfInBounds_ne (by omega), Array.getElem?_setIfInBounds_ne (by omega), Array.getElem?_setIfInBounds_ne (by omega), Array.getElem?_setIfInBounds_ne (by omega), Array.getElem?_setIfInBounds_ne (by omega), Array.getElem?_setIfInBounds_ne (by omega), Array.getElem?_setIfInBounds_ne (by omega), Array.getElem?_setIfInBounds_ne (by omega), Array.getElem?_setIfInBounds_ne (by omega), Array.getElem?_setIfInBounds_ne (by omega), Array.getElem?_setIfInBounds_ne (by omega), Array.getElem?_setIfInBounds_ne (by omega)]
          exact HMk.out i h
        · obtain ⟨d, rfl⟩ : ∃ d, i = j * 12 + d := ⟨i - j * 12, by omega⟩
          have hd : d < 12 := by omega
          have hb : j * 12 + d < cs.size := by rw [hS]; exact hN _ (by omega)
          rw [show (((k + (j * 12 + d) : Nat)) : Int) = ((K + d : Nat) : Int) by rw [hk]; congr 1; omega]
          exact marks_at12 cs K (j * 12) d hd (fun d' h' => by rw [hS]; exact hN _ (by omega))
    · have hjl : j = xs.length := by omega
      subst hjl
      go_wp2
      go_ret
      exact ⟨rfl, HWk.out, Or.inr ⟨g, cs, rfl, HGk.out, HMk.out⟩⟩
set_option maxRecDepth 100000 in
set_option maxHeartbeats 4000000 in
theorem heldRequestS (A : Option Addr) (c n k : Nat) (hk : k + 12 * n ≤ 1000000000) (hr : MarkedAt w A 63 (12 * n) k) :
    Calls Tryz.prog 56 #[.slice A n c, .int .i64 k] w fun e w' => e = .returned (.int .i64 ((k + 12 * n : Nat) : Int)) ∧ w' = w := by
  rcases Nat.eq_zero_or_pos n with rfl | hz
  · clear hr hk
    go_enter Tryz.func56, Tryz.ntmps56
    go_wp2_with fail
    go_loopg [1, 5] 1 (fun q v1 v5 wr => q = 1 ∧ v1 = .int .i64 k ∧ v5 = .int .i64 0 ∧ wr = w)
    case atStart => exact ⟨rfl, rfl, rfl, rfl⟩
    case round =>
      obtain ⟨rfl, rfl, rfl, rfl⟩ := hrel
      go_wp2
      go_ret
      exact ⟨rfl, rfl⟩
  rcases hr with hr | ⟨g, cs, rfl, hg0, hM⟩
  · omega
  have HG0 := Aside0.mk hg0; have HM := Aside0.mk hM; clear hg0 hM
  go_enter Tryz.func56, Tryz.ntmps56
  go_wp2_with fail
  go_loopg [1, 5] (n + 1) (fun q v1 v5 wr => ∃ j : Nat, q = n + 1 - j ∧ j ≤ n ∧ v1 = .int .i64 ((k + 12 * j : Nat) : Int) ∧ v5 = .int .i64 j ∧ wr = w)
  case atStart => exact ⟨0, by omega, by omega, rfl, rfl, rfl⟩
  case round =>
    obtain ⟨j, rfl, hj, rfl, rfl, rfl⟩ := hrel
    by_cases hlt : j < n
    · obtain ⟨b1, b2⟩ := lay (Below.refl _ _) HG0.out
      obtain ⟨K, hK⟩ : ∃ K, K = k + 12 * j := ⟨_, rfl⟩
      rw [← hK]
      have HK := Aside0.mk hK
      have hKb : K ≤ 1000000000 := by omega
      clear hK
      have z0 : wr.cell? ⟨g, j * 12, none⟩ = some (.int .i64 (K : Int)) := (b1 (j * 12)).trans ((HM.out _ (by omega)).trans (by congr 2; have := HK.out; omega))
      have z1 : wr.cell? ⟨g, j * 12 + 1, none⟩ = some (.int .i64 (K + 1 : Int)) := (b1 (j * 12 + 1)).trans ((HM.out _ (by omega)).trans (by congr 2; have := HK.out; omega))
      have z2 : wr.cell? ⟨g, j * 12 + 2, none⟩ = some (.int .i64 (K + 1 + 1 : Int)) := (b1 (j * 12 + 2)).trans ((HM.out _ (by omega)).trans (by congr 2; have := HK.out; omega))
      have z3 : wr.cell? ⟨g, j * 12 + 3, none⟩ = some (.int .i64 (K + 1 + 1 + 1 : Int)) := (b1 (j * 12 + 3)).trans ((HM.out _ (by omega)).trans (by congr 2; have := HK.out; omega))
      have z4 : wr.cell? ⟨g, j * 12 + 4, none⟩ = some (.int .i64 (K + 1 + 1 + 1 + 1 : Int)) := (b1 (j * 12 + 4)).trans ((HM.out _ (by omega)).trans (by congr 2; have := HK.out; omega))
      have z5 : wr.cell? ⟨g, j * 12 + 5, none⟩ = some (.int .i64 (K + 1 + 1 + 1 + 1 + 1 : Int)) := (b1 (j * 12 + 5)).trans ((HM.out _ (by omega)).trans (by congr 2; have := HK.out; omega))
      have z6 : wr.cell? ⟨g, j * 12 + 6, none⟩ = some (.int .i64 (K + 1 + 1 + 1 + 1 + 1 + 1 : Int)) := (b1 (j * 12 + 6)).trans ((HM.out _ (by omega)).trans (by congr 2; have := HK.out; omega))
      have z7 : wr.cell? ⟨g, j * 12 + 7, none⟩ = some (.int .i64 (K + 1 + 1 + 1 + 1 + 1 + 1 + 1 : Int)) := (b1 (j * 12 + 7)).trans ((HM.out _ (by omega)).trans (by congr 2; have := HK.out; omega))
      have z8 : wr.cell? ⟨g, j * 12 + 8, none⟩ = some (.int .i64 (K + 1 + 1 + 1 + 1 + 1 + 1 + 1 + 1 : Int)) := (b1 (j * 12 + 8)).trans ((HM.out _ (by omega)).trans (by congr 2; have := HK.out; omega))
      have z9 : wr.cell? ⟨g, j * 12 + 9, none⟩ = some (.int .i64 (K + 1 + 1 + 1 + 1 + 1 + 1 + 1 + 1 + 1 : Int)) := (b1 (j * 12 + 9)).trans ((HM.out _ (by omega)).trans (by congr 2; have := HK.out; omega))
      have z10 : wr.cell? ⟨g, j * 12 + 10, none⟩ = some (.int .i64 (K + 1 + 1 + 1 + 1 + 1 + 1 + 1 + 1 + 1 + 1 : Int)) := (b1 (j * 12 + 10)).trans ((HM.out _ (by omega)).trans (by congr 2; have := HK.out; omega))
      have z11 : wr.cell? ⟨g, j * 12 + 11, none⟩ = some (.int .i64 (K + 1 + 1 + 1 + 1 + 1 + 1 + 1 + 1 + 1 + 1 + 1 : Int)) := (b1 (j * 12 + 11)).trans ((HM.out _ (by omega)).trans (by congr 2; have := HK.out; omega))
      clear b1 b2
      go_wp2
      go_roundg (n + 1 - (j + 1))
      case measure => omega
      case rel => exact ⟨j + 1, rfl, hlt, by show Value.int .i64 _ = Value.int .i64 _; congr 1; have := HK.out; omega, by go_num, rfl⟩
    · have hjl : j = n := by omega
      subst hjl
      go_wp2
      go_ret
      exact ⟨rfl, rfl⟩
set_option maxHeartbeats 2000000 in
theorem marks_at3 (cs : Array Value) (K b d : Nat) (hd : d < 3) (hs : ∀ d, d < 3 → b + d < cs.size) : (((cs.setIfInBounds (b) (.int .i64 (K : Int))).setIfInBounds (b + 1) (.int .i64 (K + 1 : Int))).setIfInBounds (b + 2) (.int .i64 (K + 1 + 1 : Int)))[b + d]? = some (Value.int .i64 ((K + d : Nat) : Int)) := by
  have h3 := hs d hd
  rcases (show d = 0 ∨ d = 1 ∨ d = 2 by omega) with rfl | rfl | rfl
  · exact sb_ne (by omega) (sb_ne (by omega) (sb_eq rfl (by (try simp only [Array.size_setIfInBounds]); exact h3) (congrArg (fun z : Int => Value.int IntKind.i64 z) (by omega))))
  · exact sb_ne (by omega) (sb_eq rfl (by (try simp only [Array.size_setIfInBounds]); exact h3) (congrArg (fun z : Int => Value.int IntKind.i64 z) (by omega)))
  · exact sb_eq rfl (by (try simp only [Array.size_setIfInBounds]); exact h3) (congrArg (fun z : Int => Value.int IntKind.i64 z) (by omega))
set_option maxRecDepth 100000 in
set_option maxHeartbeats 4000000 in
theorem markRoadC (base : Nat) (ok : Nat → Prop) (A : Option Addr) (c : Nat) (xs : List Road) (k : Nat) (hk : k + 3 * xs.length ≤ 1000000000) (hr : kRoad.R 66 w base ok (.slice A xs.length c) xs) :
    Calls Tryz.prog 54 #[.slice A xs.length c, .int .i64 k] w fun e w' => e = .returned (.int .i64 ((k + 3 * xs.length : Nat) : Int)) ∧ w.grownBy w' (Value.slice A xs.length c).ownBlock ∧ MarkedAt w' A 66 (3 * xs.length) k := by
  rcases Nat.eq_zero_or_pos xs.length with hz | hz
  · have HZ := Aside0.mk hz
    rw [hz]
    clear hr hk hz
    go_enter Tryz.func54, Tryz.ntmps54
    go_wp2_with fail
    go_loopg [1, 5] 1 (fun q v1 v5 wr => q = 1 ∧ v1 = .int .i64 k ∧ v5 = .int .i64 0 ∧ wr = w)
    case atStart => exact ⟨rfl, rfl, rfl, rfl⟩
    case round =>
      obtain ⟨rfl, rfl, rfl, rfl⟩ := hrel
      go_wp2
      go_ret
      exact ⟨rfl, World.grownBy.refl _ _, Or.inl rfl⟩
  obtain ⟨g, cap, e0, _, _, cs0, hg0⟩ := Kd.R_form hr hz
  simp only [Value.slice.injEq, true_and] at e0
  obtain ⟨rfl, rfl⟩ := e0
  have hC := (Kd.R_reads' hr).2.2
  have hN : ∀ i, i < 3 * xs.length → i < cs0.size := by
    intro i hi
    obtain ⟨ad, e1, hc⟩ := Kd.flat_at (n := 3) (enc := Road.enc) hC zR (i / 3) (by omega)
    cases e1
    have h4 : i % 3 < (Road.enc (xs.getD (i / 3) zR)).length := by show i % 3 < 3; omega
    have := hc (i % 3) _ (List.getElem?_eq_getElem h4)
    rw [show i / 3 * 3 + i % 3 = i by omega, Addr.add_lit, Nat.zero_add, blk_cell hg0] at this
    exact (Array.getElem?_eq_some_iff.1 this).1
  have HN := Aside0.mk hN; have HG0 := Aside0.mk hg0; clear hN hC hr
  go_enter Tryz.func54, Tryz.ntmps54
  go_wp2_with fail
  go_loopg [1, 5] (xs.length + 1) (fun q v1 v5 wr => ∃ (j : Nat) (cs : Array Value), q = xs.length + 1 - j ∧ j ≤ xs.length ∧ v1 = .int .i64 ((k + 3 * j : Nat) : Int) ∧ v5 = .int .i64 j ∧ cs.size = cs0.size ∧ Aside0 (wr.heap[g]? = some (.cells cs 66 (0, 0))) ∧ Aside0 (w.grownBy wr (some g)) ∧ Aside0 (∀ i, i < 3 * j → cs[i]? = some (.int .i64 ((k + i : Nat) : Int))))
  case atStart => exact ⟨0, cs0, by omega, by omega, rfl, rfl, rfl, HG0, ⟨World.grownBy.refl w _⟩, ⟨fun i hi => absurd hi (Nat.not_lt_zero _)⟩⟩
  case round =>
    obtain ⟨j, cs, rfl, hj, rfl, rfl, hcs, HGk, HWk, HMk⟩ := hrel
    by_cases hlt : j < xs.length
    · obtain ⟨b1, b2⟩ := lay (Below.refl _ _) HGk.out
      obtain ⟨K, hK⟩ : ∃ K, K = k + 3 * j := ⟨_, rfl⟩
      rw [← hK]
      have HK := Aside0.mk hK
      have hKb : K ≤ 1000000000 := by omega
      clear hK
      obtain ⟨u0, h0⟩ : ∃ u, cs[j * 3]? = some u := ⟨_, Array.getElem?_eq_getElem (by rw [hcs]; exact HN.out _ (by omega))⟩
      have z0 := (b1 (j * 3)).trans h0
      have f0 := b2 (j * 3)
      clear h0
      obtain ⟨u1, h1⟩ : ∃ u, cs[j * 3 + 1]? = some u := ⟨_, Array.getElem?_eq_getElem (by rw [hcs]; exact HN.out _ (by omega))⟩
      have z1 := (b1 (j * 3 + 1)).trans h1
      have f1 := b2 (j * 3 + 1)
      clear h1
      obtain ⟨u2, h2⟩ : ∃ u, cs[j * 3 + 2]? = some u := ⟨_, Array.getElem?_eq_getElem (by rw [hcs]; exact HN.out _ (by omega))⟩
      have z2 := (b1 (j * 3 + 2)).trans h2
      have f2 := b2 (j * 3 + 2)
      clear h2
      clear b1 b2
      have HCS := Aside0.mk hcs; clear hcs
      go_wp2_with fail
      go_roundg (xs.length + 1 - (j + 1))
      case measure => omega
      case rel =>
        refine ⟨j + 1, (((cs.setIfInBounds (j * 3) (.int .i64 (K : Int))).setIfInBounds (j * 3 + 1) (.int .i64 (K + 1 : Int))).setIfInBounds (j * 3 + 2) (.int .i64 (K + 1 + 1 : Int))), rfl, hlt, by show Value.int .i64 _ = Value.int .i64 _; congr 1; have := HK.out; omega, by go_num, by simp only [Array.size_setIfInBounds]; exact HCS.out, ⟨(blk_set (blk_set (blk_set HGk.out (j * 3) (.int .i64 (K : Int))) (j * 3 + 1) (.int .i64 (K + 1 : Int))) (j * 3 + 2) (.int .i64 (K + 1 + 1 : Int)))⟩, ⟨(grown_set (grown_set (grown_set HWk.out _ _) _ _) _ _)⟩, ⟨fun i hi => ?_⟩⟩
        have hk := HK.out
        have hN := HN.out
        have hS := HCS.out
        rcases Nat.lt_or_ge i (3 * j) with h | h
        · rw [Array.getElem?_setIfInBounds_ne (by omega), Array.getElem?_setIfInBounds_ne (by omega), Array.getElem?_setIfInBounds_ne (by omega)]
          exact HMk.out i h
        · obtain ⟨d, rfl⟩ : ∃ d, i = j * 3 + d := ⟨i - j * 3, by omega⟩
          have hd : d < 3 := by omega
          have hb : j * 3 + d < cs.size := by rw [hS]; exact hN _ (by omega)
          rw [show (((k + (j * 3 + d) : Nat)) : Int) = ((K + d : Nat) : Int) by rw [hk]; congr 1; omega]
          exact marks_at3 cs K (j * 3) d hd (fun d' h' => by rw [hS]; exact hN _ (by omega))
    · have hjl : j = xs.length := by omega
      subst hjl
      go_wp2
      go_ret
      exact ⟨rfl, HWk.out, Or.inr ⟨g, cs, rfl, HGk.out, HMk.out⟩⟩
set_option maxRecDepth 100000 in
set_option maxHeartbeats 4000000 in
theorem heldRoadS (A : Option Addr) (c n k : Nat) (hk : k + 3 * n ≤ 1000000000) (hr : MarkedAt w A 66 (3 * n) k) :
    Calls Tryz.prog 57 #[.slice A n c, .int .i64 k] w fun e w' => e = .returned (.int .i64 ((k + 3 * n : Nat) : Int)) ∧ w' = w := by
  rcases Nat.eq_zero_or_pos n with rfl | hz
  · clear hr hk
    go_enter Tryz.func57, Tryz.ntmps57
    go_wp2_with fail
    go_loopg [1, 5] 1 (fun q v1 v5 wr => q = 1 ∧ v1 = .int .i64 k ∧ v5 = .int .i64 0 ∧ wr = w)
    case atStart => exact ⟨rfl, rfl, rfl, rfl⟩
    case round =>
      obtain ⟨rfl, rfl, rfl, rfl⟩ := hrel
      go_wp2
      go_ret
      exact ⟨rfl, rfl⟩
  rcases hr with hr | ⟨g, cs, rfl, hg0, hM⟩
  · omega
  have HG0 := Aside0.mk hg0; have HM := Aside0.mk hM; clear hg0 hM
  go_enter Tryz.func57, Tryz.ntmps57
  go_wp2_with fail
  go_loopg [1, 5] (n + 1) (fun q v1 v5 wr => ∃ j : Nat, q = n + 1 - j ∧ j ≤ n ∧ v1 = .int .i64 ((k + 3 * j : Nat) : Int) ∧ v5 = .int .i64 j ∧ wr = w)
  case atStart => exact ⟨0, by omega, by omega, rfl, rfl, rfl⟩
  case round =>
    obtain ⟨j, rfl, hj, rfl, rfl, rfl⟩ := hrel
    by_cases hlt : j < n
    · obtain ⟨b1, b2⟩ := lay (Below.refl _ _) HG0.out
      obtain ⟨K, hK⟩ : ∃ K, K = k + 3 * j := ⟨_, rfl⟩
      rw [← hK]
      have HK := Aside0.mk hK
      have hKb : K ≤ 1000000000 := by omega
      clear hK
      have z0 : wr.cell? ⟨g, j * 3, none⟩ = some (.int .i64 (K : Int)) := (b1 (j * 3)).trans ((HM.out _ (by omega)).trans (by congr 2; have := HK.out; omega))
      have z1 : wr.cell? ⟨g, j * 3 + 1, none⟩ = some (.int .i64 (K + 1 : Int)) := (b1 (j * 3 + 1)).trans ((HM.out _ (by omega)).trans (by congr 2; have := HK.out; omega))
      have z2 : wr.cell? ⟨g, j * 3 + 2, none⟩ = some (.int .i64 (K + 1 + 1 : Int)) := (b1 (j * 3 + 2)).trans ((HM.out _ (by omega)).trans (by congr 2; have := HK.out; omega))
      clear b1 b2
      go_wp2
      go_roundg (n + 1 - (j + 1))
      case measure => omega
      case rel => exact ⟨j + 1, rfl, hlt, by show Value.int .i64 _ = Value.int .i64 _; congr 1; have := HK.out; omega, by go_num, rfl⟩
    · have hjl : j = n := by omega
      subst hjl
      go_wp2
      go_ret
      exact ⟨rfl, rfl⟩
end
end Go.Proofs.YtogjkkbhmanbmaaGreatDoor.L1
