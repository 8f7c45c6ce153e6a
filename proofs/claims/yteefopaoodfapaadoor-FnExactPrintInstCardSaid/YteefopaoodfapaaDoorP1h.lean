/- The laws' helpers over bytes and instances: comparison, marks, what is held. -/
import Derived.Test.YteefopaoodfapaaDoorP1g
import Derived.Test.YteefopaoodfapaaDoorP1d
namespace Go.Proofs.YteefopaoodfapaaDoor.L1
open Go.RowKit Go.Proofs.YteefopaoodfapaaDoorW.PrintWords Go.Proofs.YteefopaoodfapaaDoor.B
set_option linter.unusedVariables false
set_option linter.unusedSimpArgs false
attribute [local go_sem] mk_cell mk_frozen
/-- Only the blocks of P are touched, of those that stood. -/
structure Only (w w' : World) (P : Nat → Prop) : Prop where
  os : w'.os = w.os
  tape : w'.tape = w.tape
  output : w'.output = w.output
  size : w.heap.size ≤ w'.heap.size
  block : ∀ i, i < w.heap.size → ¬ P i → w'.heap[i]? = w.heap[i]?
theorem Only.trans {w w1 w2 : World} {P : Nat → Prop} (h : Only w w1 P) (k : Only w1 w2 P) : Only w w2 P :=
  ⟨k.os.trans h.os, k.tape.trans h.tape, k.output.trans h.output, Nat.le_trans h.size k.size, fun i hi hp => (k.block i (Nat.lt_of_lt_of_le hi h.size) hp).trans (h.block i hi hp)⟩
theorem Only.grown {w w1 : World} {row : Option Nat} {P : Nat → Prop} (h : w.grownBy w1 row) (hp : ∀ i, some i = row → P i) : Only w w1 P :=
  ⟨h.os, h.tape, h.output, h.size, fun i hi hn => h.block i hi fun e => hn (hp i e)⟩
theorem Only.of_below {w w1 : World} {P : Nat → Prop} (h : Below w.heap.size w w1) : Only w w1 P := ⟨h.os, h.tape, h.output, h.size, fun i hi _ => h.block i hi⟩
theorem Only.below {w0 w w1 : World} {P : Nat → Prop} (h : Only w w1 P) (hb : Below w0.heap.size w0 w) (hp : ∀ i, i < w0.heap.size → ¬ P i) : Below w0.heap.size w0 w1 :=
  ⟨h.os.trans hb.os, h.tape.trans hb.tape, h.output.trans hb.output, Nat.le_trans hb.size h.size, fun i hi => (h.block i (Nat.lt_of_lt_of_le hi hb.size) (hp i hi)).trans (hb.block i hi)⟩
theorem grown_set {w W : World} {g : Nat} (h : w.grownBy W (some g)) (o : Nat) (v : Value) : w.grownBy (W.setCell ⟨g, o, none⟩ v) (some g) :=
  ⟨h.os, h.tape, h.output, by rw [World.size_setCell]; exact h.size, fun k hk hne => (Below.heap_setCell W ⟨g, o, none⟩ v k (fun e => hne (by rw [e]))).trans (h.block k hk hne)⟩
def marksB (k n : Nat) : List Int := (List.range n).map fun i => (((k + i) % 256 : Nat) : Int)
theorem marksB_len (k n : Nat) : (marksB k n).length = n := by simp [marksB]
theorem marksB_at (k n i : Nat) (h : i < n) : (marksB k n).getD i 0 = (((k + i) % 256 : Nat) : Int) := by
  rw [List.getD_eq_getElem?_getD, List.getElem?_eq_getElem (by rw [marksB_len]; exact h)]
  simp [marksB]
section
variable (w : World)
set_option maxHeartbeats 1000000 in
theorem eqByteS (A A' : Option Addr) (c c' : Nat) (xs : List Int) (hr : kByte.C w A xs.length xs) (hr' : kByte.C w A' xs.length xs) (hm : xs.length ≤ 4000000) : Calls Tryd.prog 8 #[.slice A xs.length c, .slice A' xs.length c'] w fun e w' => e = .returned (.bool true) ∧ Below w.heap.size w w' := by
  have HR := Aside0.mk hr; have HR' := Aside0.mk hr'; clear hr hr'
  go_enter Tryd.func8, Tryd.ntmps8
  go_wp2_with fail
  go_loopg [5] (xs.length + 1) (fun q v wr => ∃ k, q = xs.length + 1 - k ∧ k ≤ xs.length ∧ v = .int .i64 k ∧ Aside0 (Below w.heap.size w wr))
  case atStart => exact ⟨0, by omega, by omega, rfl, ⟨Below.refl _ _⟩⟩
  case round =>
    obtain ⟨k, rfl, hk, rfl, HB⟩ := hrel
    by_cases hlt : k < xs.length
    · obtain ⟨ad, e0, h0, h1⟩ := Kd.flat_cells (d := kByte) rfl (Kd.C_below HR.out HB.out) 0 k hlt
      obtain ⟨ad', e0', g0, g1⟩ := Kd.flat_cells (d := kByte) rfl (Kd.C_below HR'.out HB.out) 0 k hlt
      cases e0; cases e0'
      generalize xs.getD k 0 = x at h0 h1 g0 g1
      have c0 := h0 _ rfl; have d0 := g0 _ rfl
      simp only [Nat.mul_one] at c0 d0
      clear h0 h1 g0 g1
      have p0 : (x == x) = true := by simp
      go_wp2_with fail
      go_quiet (fail)
      go_wp2
      go_roundg (xs.length + 1 - (k + 1))
      case measure => omega
      case rel => exact ⟨k + 1, rfl, hlt, by go_num, ⟨pw_below_drewN HB.out _⟩⟩
    · go_wp2
      go_ret
      exact ⟨rfl, HB.out⟩
set_option maxRecDepth 100000 in
set_option maxHeartbeats 2000000 in
theorem markByteS (w0 : World) (A : Option Addr) (c : Nat) (xs : List Int) (k : Nat) (hk : k + xs.length ≤ 1000000000) (hr : kByte.R 5 w w0.heap.size (fun _ => True) (.slice A xs.length c) xs) (hb : Below w0.heap.size w0 w) :
    Calls Tryd.prog 11 #[.slice A xs.length c, .int .i64 k] w fun e w' => e = .returned (.int .i64 ((k + xs.length : Nat) : Int)) ∧ kByte.R 5 w' w0.heap.size (fun _ => True) (.slice A xs.length c) (marksB k xs.length) ∧ Below w0.heap.size w0 w' ∧ w.grownBy w' (Value.slice A xs.length c).ownBlock := by
  have HR := Aside0.mk hr; have HB := Aside0.mk hb; clear hr hb
  obtain ⟨ms, hms⟩ : ∃ ms, ms = marksB k xs.length := ⟨_, rfl⟩
  have HLEN := Aside0.mk (show xs.length = ms.length by rw [hms, marksB_len])
  have HMS := Aside0.mk hms; clear hms
  go_enter Tryd.func11, Tryd.ntmps11
  go_wp2_with fail
  go_loopg [1, 5] (xs.length + 1) (fun q v1 v5 wr => ∃ (j : Nat) (ys : List Int), q = xs.length + 1 - j ∧ j ≤ xs.length ∧ v1 = .int .i64 ((k + j : Nat) : Int) ∧ v5 = .int .i64 j ∧ Aside0 (Filled ms j ys) ∧ Aside0 (kByte.R 5 wr w0.heap.size (fun _ => True) (.slice A xs.length c) ys) ∧ Aside0 (Below w0.heap.size w0 wr) ∧ Aside0 (w.grownBy wr (Value.slice A xs.length c).ownBlock))
  case atStart => exact ⟨0, xs, by omega, by omega, rfl, rfl, ⟨HLEN.out, fun j hj => absurd hj (Nat.not_lt_zero _)⟩, HR, HB, ⟨World.grownBy.refl w _⟩⟩
  case round =>
    obtain ⟨j, ys, rfl, hj, rfl, rfl, HF, HO, HBk, HG⟩ := hrel
    clear HR HB
    by_cases hlt : j < xs.length
    · have HF1 := Aside0.mk (HF.out.step (z := 0) (by have := HLEN.out; omega))
      have HM := Aside0.mk (show ms.getD j 0 = ((k : Int) + (j : Int)) % 256 by rw [HMS.out, marksB_at k _ j hlt]; omega)
      obtain ⟨g, cap, e0, hg, _, _⟩ := Kd.R_form HO.out (by rw [HF.out.1]; have := HLEN.out; omega)
      simp only [Value.slice.injEq] at e0
      obtain ⟨rfl, hyl, rfl⟩ := e0
      have hjy : j < ys.length := by omega
      have HYL := Aside0.mk hyl; clear hyl
      have HO' := Aside0.mk (show kByte.R 5 wr w0.heap.size (fun _ => True) (.slice (some ⟨g, 0, none⟩) xs.length c) ys from HO.out)
      go_wp2_with ((with_reducible refine gate_store (t := 5) (p := 16) rfl ?_); refine Kd.flat_store kByte rfl rfl rfl 5 _ _ rfl j (((k : Int) + (j : Int)) % 256) rfl (Nat.mul_one j).symm rfl (by kernel_rfl) HO'.out hlt HBk.out ?_; intro w3 hr3 hb3 hg3; have HO1 := Aside0.mk hr3; have HB1 := Aside0.mk hb3; have HG1 := Aside0.mk (World.grownBy.trans HG.out hg3); clear hr3 hb3 hg3)
      go_roundg (xs.length + 1 - (j + 1))
      case measure => omega
      case rel => exact ⟨j + 1, _, rfl, hlt, by show Value.int .i64 _ = Value.int .i64 _; congr 1, by go_num, HF1, ⟨by rw [HM.out]; exact HO1.out⟩, HB1, HG1⟩
    · have hjl : j = xs.length := by omega
      subst hjl
      go_wp2
      go_ret
      exact ⟨rfl, by rw [← HMS.out, ← HF.out.done (by have := HLEN.out; omega)]; exact HO.out, HBk.out, HG.out⟩
set_option maxRecDepth 100000 in
set_option maxHeartbeats 2000000 in
theorem heldByteS (A : Option Addr) (c n k : Nat) (hk : k + n ≤ 1000000000) (hr : kByte.C w A n (marksB k n)) :
    Calls Tryd.prog 12 #[.slice A n c, .int .i64 k] w fun e w' => e = .returned (.int .i64 ((k + n : Nat) : Int)) ∧ Below w.heap.size w w' := by
  have HR := Aside0.mk hr; clear hr
  go_enter Tryd.func12, Tryd.ntmps12
  go_wp2_with fail
  go_loopg [1, 5] (n + 1) (fun q v1 v5 wr => ∃ j : Nat, q = n + 1 - j ∧ j ≤ n ∧ v1 = .int .i64 ((k + j : Nat) : Int) ∧ v5 = .int .i64 j ∧ wr = w)
  case atStart => exact ⟨0, by omega, by omega, rfl, rfl, rfl⟩
  case round =>
    obtain ⟨j, rfl, hj, rfl, rfl, rfl⟩ := hrel
    by_cases hlt : j < n
    · obtain ⟨ad, e0, t0, t1⟩ := Kd.flat_cells (d := kByte) rfl HR.out 0 j hlt
      cases e0
      rw [marksB_at k n j hlt] at t0
      have z := t0 _ rfl; simp only [Nat.mul_one] at z
      clear t0 t1
      have q0 : (((k + j) % 256 : Nat) : Int) = ((k : Int) + (j : Int)) % 256 := by omega
      rw [q0] at z; clear q0
      go_wp2
      go_roundg (n + 1 - (j + 1))
      case measure => omega
      case rel => exact ⟨j + 1, rfl, hlt, by show Value.int .i64 _ = Value.int .i64 _; congr 1, by go_num, rfl⟩
    · have hjl : j = n := by omega
      subst hjl
      go_wp2
      go_ret
      exact ⟨rfl, Below.refl _ _⟩
theorem R_other {α : Type} {d : Kd α} {e base : Nat} {ok : Nat → Prop} {W W1 : World} {v : Value} {xs : List α} {row : Option Nat} {T' : TypeId} (h : d.R e W base ok v xs) (hg : W.grownBy W1 row) (hrow : ∀ i, row = some i → ∃ (cs : Array Value) (fr : Nat × Nat), W.heap[i]? = some (Obj.cells cs T' fr)) (hne : T' ∉ e :: d.E) : d.R e W1 base (fun _ => True) v xs := by
  refine Kd.R_mono (Kd.R_grown (Kd.R_mono (Kd.R_bound h) (ok' := fun k => some k ≠ row) ?_) hg (fun k hk => hk)) fun _ _ => trivial
  rintro k ⟨_, _, _, q, hq, cells, hc⟩ he
  obtain ⟨cs, fr, h2⟩ := hrow k he.symm
  rw [hc] at h2
  cases h2
  exact hne hq
theorem row_ty {α : Type} {d : Kd α} {e base : Nat} {ok : Nat → Prop} {W : World} {v : Value} {xs : List α} (h : d.R e W base ok v xs) : ∀ i, v.ownBlock = some i → ∃ (cs : Array Value) (fr : Nat × Nat), W.heap[i]? = some (Obj.cells cs e fr) := fun i hi => by
  obtain ⟨inner, ho⟩ := Kd.R_own h
  obtain ⟨cells, hc⟩ := own_typed ho i hi
  exact ⟨cells, _, hc⟩
set_option maxRecDepth 100000 in
set_option maxHeartbeats 4000000 in
theorem markVehicleS (base : Nat) (ok : Nat → Prop) (A : Option Addr) (c : Nat) (xs : List Veh) (k : Nat) (hk : k + 7 * xs.length ≤ 1000000000) (hr : kVeh.R 53 w base ok (.slice A xs.length c) xs) :
    Calls Tryd.prog 30 #[.slice A xs.length c, .int .i64 k] w fun e w' => e = .returned (.int .i64 ((k + 7 * xs.length : Nat) : Int)) ∧ w.grownBy w' (Value.slice A xs.length c).ownBlock := by
  rcases Nat.eq_zero_or_pos xs.length with hz | hz
  · have HZ := Aside0.mk hz
    rw [hz]
    clear hr hk hz
    go_enter Tryd.func30, Tryd.ntmps30
    go_wp2_with fail
    go_loopg [1, 5] 1 (fun q v1 v5 wr => q = 1 ∧ v1 = .int .i64 k ∧ v5 = .int .i64 0 ∧ wr = w)
    case atStart => exact ⟨rfl, rfl, rfl, rfl⟩
    case round =>
      obtain ⟨rfl, rfl, rfl, rfl⟩ := hrel
      go_wp2
      go_ret
      exact ⟨rfl, World.grownBy.refl _ _⟩
  obtain ⟨g, cap, e0, _, _, cs0, hg0⟩ := Kd.R_form hr hz
  simp only [Value.slice.injEq, true_and] at e0
  obtain ⟨rfl, rfl⟩ := e0
  have hC := (Kd.R_reads' hr).2.2
  have hN : ∀ i, i < 7 * xs.length → i < cs0.size := by
    intro i hi
    obtain ⟨ad, e1, hc⟩ := Kd.flat_at (n := 7) (enc := Veh.enc) hC zV (i / 7) (by omega)
    cases e1
    have h4 : i % 7 < (Veh.enc (xs.getD (i / 7) zV)).length := by show i % 7 < 7; omega
    have := hc (i % 7) _ (List.getElem?_eq_getElem h4)
    rw [show i / 7 * 7 + i % 7 = i by omega, Addr.add_lit, Nat.zero_add, blk_cell hg0] at this
    exact (Array.getElem?_eq_some_iff.1 this).1
  have HN := Aside0.mk hN; have HG0 := Aside0.mk hg0; clear hN hC hr
  go_enter Tryd.func30, Tryd.ntmps30
  go_wp2_with fail
  go_loopg [1, 5] (xs.length + 1) (fun q v1 v5 wr => ∃ (j : Nat) (cs : Array Value), q = xs.length + 1 - j ∧ j ≤ xs.length ∧ v1 = .int .i64 ((k + 7 * j : Nat) : Int) ∧ v5 = .int .i64 j ∧ cs.size = cs0.size ∧ Aside0 (wr.heap[g]? = some (.cells cs 53 (0, 0))) ∧ Aside0 (w.grownBy wr (some g)))
  case atStart => exact ⟨0, cs0, by omega, by omega, rfl, rfl, rfl, HG0, ⟨World.grownBy.refl w _⟩⟩
  case round =>
    obtain ⟨j, cs, rfl, hj, rfl, rfl, hcs, HGk, HWk⟩ := hrel
    by_cases hlt : j < xs.length
    · obtain ⟨b1, b2⟩ := lay (Below.refl _ _) HGk.out
      obtain ⟨u0, h0⟩ : ∃ u, cs[j * 7]? = some u := ⟨_, Array.getElem?_eq_getElem (by rw [hcs]; exact HN.out _ (by omega))⟩
      have z0 := (b1 (j * 7)).trans h0
      have f0 := b2 (j * 7)
      clear h0
      obtain ⟨u1, h1⟩ : ∃ u, cs[j * 7 + 1]? = some u := ⟨_, Array.getElem?_eq_getElem (by rw [hcs]; exact HN.out _ (by omega))⟩
      have z1 := (b1 (j * 7 + 1)).trans h1
      have f1 := b2 (j * 7 + 1)
      clear h1
      obtain ⟨u2, h2⟩ : ∃ u, cs[j * 7 + 2]? = some u := ⟨_, Array.getElem?_eq_getElem (by rw [hcs]; exact HN.out _ (by omega))⟩
      have z2 := (b1 (j * 7 + 2)).trans h2
      have f2 := b2 (j * 7 + 2)
      clear h2
      obtain ⟨u3, h3⟩ : ∃ u, cs[j * 7 + 3]? = some u := ⟨_, Array.getElem?_eq_getElem (by rw [hcs]; exact HN.out _ (by omega))⟩
      have z3 := (b1 (j * 7 + 3)).trans h3
      have f3 := b2 (j * 7 + 3)
      clear h3
      obtain ⟨u4, h4⟩ : ∃ u, cs[j * 7 + 4]? = some u := ⟨_, Array.getElem?_eq_getElem (by rw [hcs]; exact HN.out _ (by omega))⟩
      have z4 := (b1 (j * 7 + 4)).trans h4
      have f4 := b2 (j * 7 + 4)
      clear h4
      obtain ⟨u5, h5⟩ : ∃ u, cs[j * 7 + 5]? = some u := ⟨_, Array.getElem?_eq_getElem (by rw [hcs]; exact HN.out _ (by omega))⟩
      have z5 := (b1 (j * 7 + 5)).trans h5
      have f5 := b2 (j * 7 + 5)
      clear h5
      obtain ⟨u6, h6⟩ : ∃ u, cs[j * 7 + 6]? = some u := ⟨_, Array.getElem?_eq_getElem (by rw [hcs]; exact HN.out _ (by omega))⟩
      have z6 := (b1 (j * 7 + 6)).trans h6
      have f6 := b2 (j * 7 + 6)
      clear h6
      clear b1 b2
      have HCS := Aside0.mk hcs; clear hcs
      go_wp2_with fail
      go_roundg (xs.length + 1 - (j + 1))
      case measure => omega
      case rel => exact ⟨j + 1, _, rfl, hlt, by show Value.int .i64 _ = Value.int .i64 _; congr 1, by go_num, by simp only [Array.size_setIfInBounds]; exact HCS.out, ⟨blk_set (blk_set (blk_set (blk_set (blk_set (blk_set (blk_set HGk.out _ _) _ _) _ _) _ _) _ _) _ _) _ _⟩, ⟨grown_set (grown_set (grown_set (grown_set (grown_set (grown_set (grown_set HWk.out _ _) _ _) _ _) _ _) _ _) _ _) _ _⟩⟩
    · have hjl : j = xs.length := by omega
      subst hjl
      go_wp2
      go_ret
      exact ⟨rfl, HWk.out⟩
set_option maxRecDepth 100000 in
set_option maxHeartbeats 4000000 in
theorem markRequestS (base : Nat) (ok : Nat → Prop) (A : Option Addr) (c : Nat) (xs : List Req) (k : Nat) (hk : k + 12 * xs.length ≤ 1000000000) (hr : kReq.R 59 w base ok (.slice A xs.length c) xs) :
    Calls Tryd.prog 31 #[.slice A xs.length c, .int .i64 k] w fun e w' => e = .returned (.int .i64 ((k + 12 * xs.length : Nat) : Int)) ∧ w.grownBy w' (Value.slice A xs.length c).ownBlock := by
  rcases Nat.eq_zero_or_pos xs.length with hz | hz
  · have HZ := Aside0.mk hz
    rw [hz]
    clear hr hk hz
    go_enter Tryd.func31, Tryd.ntmps31
    go_wp2_with fail
    go_loopg [1, 5] 1 (fun q v1 v5 wr => q = 1 ∧ v1 = .int .i64 k ∧ v5 = .int .i64 0 ∧ wr = w)
    case atStart => exact ⟨rfl, rfl, rfl, rfl⟩
    case round =>
      obtain ⟨rfl, rfl, rfl, rfl⟩ := hrel
      go_wp2
      go_ret
      exact ⟨rfl, World.grownBy.refl _ _⟩
  obtain ⟨g, cap, e0, _, _, cs0, hg0⟩ := Kd.R_form hr hz
  simp only [Value.slice.injEq, true_and] at e0
  obtain ⟨rfl, rfl⟩ := e0
  have hC := (Kd.R_reads' hr).2.2
  have hN : ∀ i, i < 12 * xs.length → i < cs0.size := by
    intro i hi
    obtain ⟨ad, e1, hc⟩ := Kd.flat_at (n := 12) (enc := Req.enc) hC zQ (i / 12) (by omega)
    cases e1
    have h4 : i % 12 < (Req.enc (xs.getD (i / 12) zQ)).length := by show i % 12 < 12; omega
    have := hc (i % 12) _ (List.getElem?_eq_getElem h4)
    rw [show i / 12 * 12 + i % 12 = i by omega, Addr.add_lit, Nat.zero_add, blk_cell hg0] at this
    exact (Array.getElem?_eq_some_iff.1 this).1
  have HN := Aside0.mk hN; have HG0 := Aside0.mk hg0; clear hN hC hr
  go_enter Tryd.func31, Tryd.ntmps31
  go_wp2_with fail
  go_loopg [1, 5] (xs.length + 1) (fun q v1 v5 wr => ∃ (j : Nat) (cs : Array Value), q = xs.length + 1 - j ∧ j ≤ xs.length ∧ v1 = .int .i64 ((k + 12 * j : Nat) : Int) ∧ v5 = .int .i64 j ∧ cs.size = cs0.size ∧ Aside0 (wr.heap[g]? = some (.cells cs 59 (0, 0))) ∧ Aside0 (w.grownBy wr (some g)))
  case atStart => exact ⟨0, cs0, by omega, by omega, rfl, rfl, rfl, HG0, ⟨World.grownBy.refl w _⟩⟩
  case round =>
    obtain ⟨j, cs, rfl, hj, rfl, rfl, hcs, HGk, HWk⟩ := hrel
    by_cases hlt : j < xs.length
    · obtain ⟨b1, b2⟩ := lay (Below.refl _ _) HGk.out
      obtain ⟨u0, h0⟩ : ∃ u, cs[j * 12]? = some u := ⟨_, Array.getElem?_eq_getElem (by rw [hcs]; exact HN.out _ (by omega))⟩
      have z0 := (b1 (j * 12)).trans h0
      have f0 := b2 (j * 12)
      clear h0
      obtain ⟨u1, h1⟩ : ∃ u, cs[j * 12 + 1]? = some u := ⟨_, Array.getElem?_eq_getElem (by rw [hcs]; exact HN.out _ (by omega))⟩
      have z1 := (b1 (j * 12 + 1)).trans h1
      have f1 := b2 (j * 12 + 1)
      clear h1
      obtain ⟨u2, h2⟩ : ∃ u, cs[j * 12 + 2]? = some u := ⟨_, Array.getElem?_eq_getElem (by rw [hcs]; exact HN.out _ (by omega))⟩
      have z2 := (b1 (j * 12 + 2)).trans h2
      have f2 := b2 (j * 12 + 2)
      clear h2
      obtain ⟨u3, h3⟩ : ∃ u, cs[j * 12 + 3]? = some u := ⟨_, Array.getElem?_eq_getElem (by rw [hcs]; exact HN.out _ (by omega))⟩
      have z3 := (b1 (j * 12 + 3)).trans h3
      have f3 := b2 (j * 12 + 3)
      clear h3
      obtain ⟨u4, h4⟩ : ∃ u, cs[j * 12 + 4]? = some u := ⟨_, Array.getElem?_eq_getElem (by rw [hcs]; exact HN.out _ (by omega))⟩
      have z4 := (b1 (j * 12 + 4)).trans h4
      have f4 := b2 (j * 12 + 4)
      clear h4
      obtain ⟨u5, h5⟩ : ∃ u, cs[j * 12 + 5]? = some u := ⟨_, Array.getElem?_eq_getElem (by rw [hcs]; exact HN.out _ (by omega))⟩
      have z5 := (b1 (j * 12 + 5)).trans h5
      have f5 := b2 (j * 12 + 5)
      clear h5
      obtain ⟨u6, h6⟩ : ∃ u, cs[j * 12 + 6]? = some u := ⟨_, Array.getElem?_eq_getElem (by rw [hcs]; exact HN.out _ (by omega))⟩
      have z6 := (b1 (j * 12 + 6)).trans h6
      have f6 := b2 (j * 12 + 6)
      clear h6
      obtain ⟨u7, h7⟩ : ∃ u, cs[j * 12 + 7]? = some u := ⟨_, Array.getElem?_eq_getElem (by rw [hcs]; exact HN.out _ (by omega))⟩
      have z7 := (b1 (j * 12 + 7)).trans h7
      have f7 := b2 (j * 12 + 7)
      clear h7
      obtain ⟨u8, h8⟩ : ∃ u, cs[j * 12 + 8]? = some u := ⟨_, Array.getElem?_eq_getElem (by rw [hcs]; exact HN.out _ (by omega))⟩
      have z8 := (b1 (j * 12 + 8)).trans h8
      have f8 := b2 (j * 12 + 8)
      clear h8
      obtain ⟨u9, h9⟩ : ∃ u, cs[j * 12 + 9]? = some u := ⟨_, Array.getElem?_eq_getElem (by rw [hcs]; exact HN.out _ (by omega))⟩
      have z9 := (b1 (j * 12 + 9)).trans h9
      have f9 := b2 (j * 12 + 9)
      clear h9
      obtain ⟨u10, h10⟩ : ∃ u, cs[j * 12 + 10]? = some u := ⟨_, Array.getElem?_eq_getElem (by rw [hcs]; exact HN.out _ (by omega))⟩
      have z10 := (b1 (j * 12 + 10)).trans h10
      have f10 := b2 (j * 12 + 10)
      clear h10
      obtain ⟨u11, h11⟩ : ∃ u, cs[j * 12 + 11]? = some u := ⟨_, Array.getElem?_eq_getElem (by rw [hcs]; exact HN.out _ (by omega))⟩
      have z11 := (b1 (j * 12 + 11)).trans h11
      have f11 := b2 (j * 12 + 11)
      clear h11
      clear b1 b2
      have HCS := Aside0.mk hcs; clear hcs
      go_wp2_with fail
      go_roundg (xs.length + 1 - (j + 1))
      case measure => omega
      case rel => exact ⟨j + 1, _, rfl, hlt, by show Value.int .i64 _ = Value.int .i64 _; congr 1, by go_num, by simp only [Array.size_setIfInBounds]; exact HCS.out, ⟨blk_set (blk_set (blk_set (blk_set (blk_set (blk_set (blk_set (blk_set (blk_set (blk_set (blk_set (blk_set HGk.out _ _) _ _) _ _) _ _) _ _) _ _) _ _) _ _) _ _) _ _) _ _) _ _⟩, ⟨grown_set (grown_set (grown_set (grown_set (grown_set (grown_set (grown_set (grown_set (grown_set (grown_set (grown_set (grown_set HWk.out _ _) _ _) _ _) _ _) _ _) _ _) _ _) _ _) _ _) _ _) _ _) _ _⟩⟩
    · have hjl : j = xs.length := by omega
      subst hjl
      go_wp2
      go_ret
      exact ⟨rfl, HWk.out⟩
set_option maxRecDepth 100000 in
set_option maxHeartbeats 4000000 in
theorem markRoadS (base : Nat) (ok : Nat → Prop) (A : Option Addr) (c : Nat) (xs : List Road) (k : Nat) (hk : k + 3 * xs.length ≤ 1000000000) (hr : kRoad.R 61 w base ok (.slice A xs.length c) xs) :
    Calls Tryd.prog 32 #[.slice A xs.length c, .int .i64 k] w fun e w' => e = .returned (.int .i64 ((k + 3 * xs.length : Nat) : Int)) ∧ w.grownBy w' (Value.slice A xs.length c).ownBlock := by
  rcases Nat.eq_zero_or_pos xs.length with hz | hz
  · have HZ := Aside0.mk hz
    rw [hz]
    clear hr hk hz
    go_enter Tryd.func32, Tryd.ntmps32
    go_wp2_with fail
    go_loopg [1, 5] 1 (fun q v1 v5 wr => q = 1 ∧ v1 = .int .i64 k ∧ v5 = .int .i64 0 ∧ wr = w)
    case atStart => exact ⟨rfl, rfl, rfl, rfl⟩
    case round =>
      obtain ⟨rfl, rfl, rfl, rfl⟩ := hrel
      go_wp2
      go_ret
      exact ⟨rfl, World.grownBy.refl _ _⟩
  obtain ⟨g, cap, e0, _, _, cs0, hg0⟩ := Kd.R_form hr hz
  simp only [Value.slice.injEq, true_and] at e0
  obtain ⟨rfl, rfl⟩ := e0
  have hC := (Kd.R_reads' hr).2.2
  have hN : ∀ i, i < 3 * xs.length → i < cs0.size := by
    intro i hi
    obtain ⟨ad, e1, hc⟩ := Kd.flat_at (n := 3) (enc := Road.enc) hC zR (i / 3) (by omega)
    cases e1
    have h4 : i % 3 < (Road.enc (xs.getD (i / 3) zR)).length := by show i % 3 < 3; omega
    have := hc (i % 3) _ (List.getElem?_eq_getElem h4)
    rw [show i / 3 * 3 + i % 3 = i by omega, Addr.add_lit, Nat.zero_add, blk_cell hg0] at this
    exact (Array.getElem?_eq_some_iff.1 this).1
  have HN := Aside0.mk hN; have HG0 := Aside0.mk hg0; clear hN hC hr
  go_enter Tryd.func32, Tryd.ntmps32
  go_wp2_with fail
  go_loopg [1, 5] (xs.length + 1) (fun q v1 v5 wr => ∃ (j : Nat) (cs : Array Value), q = xs.length + 1 - j ∧ j ≤ xs.length ∧ v1 = .int .i64 ((k + 3 * j : Nat) : Int) ∧ v5 = .int .i64 j ∧ cs.size = cs0.size ∧ Aside0 (wr.heap[g]? = some (.cells cs 61 (0, 0))) ∧ Aside0 (w.grownBy wr (some g)))
  case atStart => exact ⟨0, cs0, by omega, by omega, rfl, rfl, rfl, HG0, ⟨World.grownBy.refl w _⟩⟩
  case round =>
    obtain ⟨j, cs, rfl, hj, rfl, rfl, hcs, HGk, HWk⟩ := hrel
    by_cases hlt : j < xs.length
    · obtain ⟨b1, b2⟩ := lay (Below.refl _ _) HGk.out
      obtain ⟨u0, h0⟩ : ∃ u, cs[j * 3]? = some u := ⟨_, Array.getElem?_eq_getElem (by rw [hcs]; exact HN.out _ (by omega))⟩
      have z0 := (b1 (j * 3)).trans h0
      have f0 := b2 (j * 3)
      clear h0
      obtain ⟨u1, h1⟩ : ∃ u, cs[j * 3 + 1]? = some u := ⟨_, Array.getElem?_eq_getElem (by rw [hcs]; exact HN.out _ (by omega))⟩
      have z1 := (b1 (j * 3 + 1)).trans h1
      have f1 := b2 (j * 3 + 1)
      clear h1
      obtain ⟨u2, h2⟩ : ∃ u, cs[j * 3 + 2]? = some u := ⟨_, Array.getElem?_eq_getElem (by rw [hcs]; exact HN.out _ (by omega))⟩
      have z2 := (b1 (j * 3 + 2)).trans h2
      have f2 := b2 (j * 3 + 2)
      clear h2
      clear b1 b2
      have HCS := Aside0.mk hcs; clear hcs
      go_wp2_with fail
      go_roundg (xs.length + 1 - (j + 1))
      case measure => omega
      case rel => exact ⟨j + 1, _, rfl, hlt, by show Value.int .i64 _ = Value.int .i64 _; congr 1, by go_num, by simp only [Array.size_setIfInBounds]; exact HCS.out, ⟨blk_set (blk_set (blk_set HGk.out _ _) _ _) _ _⟩, ⟨grown_set (grown_set (grown_set HWk.out _ _) _ _) _ _⟩⟩
    · have hjl : j = xs.length := by omega
      subst hjl
      go_wp2
      go_ret
      exact ⟨rfl, HWk.out⟩
set_option maxRecDepth 100000 in
set_option maxHeartbeats 2000000 in
theorem markInst (wT : World) (base : Nat) (v : Value) (x : Inst) (k : Nat) (hx : x.small) (hk : k ≤ 1000) (hr : OwnInst wT base v x) (hT : Below wT.heap.size wT w) :
    Calls Tryd.prog 10 #[v, .int .i64 k] w fun e w' => (∃ r : Int, e = .returned (.int .i64 r) ∧ 0 ≤ r) ∧ Only w w' (fun i => base ≤ i ∧ i < wT.heap.size) := by
  obtain ⟨v0, v1, v2, s1, s2, rfl, h0, h1, h2⟩ := hr
  obtain ⟨A0, c0, rfl⟩ := Kd.R_slice h0
  obtain ⟨A1, c1, rfl⟩ := Kd.R_slice h1
  obtain ⟨A2, c2, rfl⟩ := Kd.R_slice h2
  obtain ⟨n0, n1, n2⟩ := hx
  have P0 := Aside0.mk (show ∀ i, some i = (Value.slice A0 x.vs.length c0).ownBlock → base ≤ i ∧ i < wT.heap.size from fun i hi => ⟨Kd.R_base h0 i hi.symm, Kd.R_lt h0 i hi.symm⟩)
  have P1 := Aside0.mk (show ∀ i, some i = (Value.slice A1 x.qs.length c1).ownBlock → base ≤ i ∧ i < wT.heap.size from fun i hi => ⟨Kd.R_base h1 i hi.symm, Kd.R_lt h1 i hi.symm⟩)
  have P2 := Aside0.mk (show ∀ i, some i = (Value.slice A2 x.rs.length c2).ownBlock → base ≤ i ∧ i < wT.heap.size from fun i hi => ⟨Kd.R_base h2 i hi.symm, Kd.R_lt h2 i hi.symm⟩)
  have HTS := Aside0.mk hT.size
  have H0 := Aside0.mk (Kd.R_alloc (Kd.R_below h0 hT) (.cells #[.slice A0 x.vs.length c0, .slice A1 x.qs.length c1, .slice A2 x.rs.length c2] 34)); have H1 := Aside0.mk (Kd.R_alloc (Kd.R_below h1 hT) (.cells #[.slice A0 x.vs.length c0, .slice A1 x.qs.length c1, .slice A2 x.rs.length c2] 34)); have H2 := Aside0.mk (Kd.R_alloc (Kd.R_below h2 hT) (.cells #[.slice A0 x.vs.length c0, .slice A1 x.qs.length c1, .slice A2 x.rs.length c2] 34)); clear h0 h1 h2
  have HW := Aside0.mk (Only.grown (P := fun i => base ≤ i ∧ i < wT.heap.size) (World.grownBy_alloc w (.cells #[.slice A0 x.vs.length c0, .slice A1 x.qs.length c1, .slice A2 x.rs.length c2] 34) none) (fun i hi => by cases hi))
  have HA := Aside0.mk (al_new w (.cells #[.slice A0 x.vs.length c0, .slice A1 x.qs.length c1, .slice A2 x.rs.length c2] 34))
  have HL := Aside0.mk (And.intro n0 (And.intro n1 n2)); clear n0 n1 n2
  go_enter Tryd.func10, Tryd.ntmps10
  go_wp2_with fail
  go_at_call 30
  refine (markVehicleS _ base _ A0 c0 x.vs k (by have := HL.out; omega) H0.out).mono ?_
  rintro e w1 ⟨rfl, hg⟩
  have HNE := Aside0.mk (show ∀ row : Option Nat, (∀ i, some i = row → i < wT.heap.size) → some w.heap.size ≠ row from fun row hr h => by have := hr w.heap.size h; have := HTS.out; omega)
  have HA1 := Aside0.mk (blk_grown HA.out hg (HNE.out _ fun i hi => (P0.out i hi).2))
  have K1 := Aside0.mk (R_other H1.out hg (row_ty H0.out) (by decide))
  have K2 := Aside0.mk (R_other H2.out hg (row_ty H0.out) (by decide))
  have HW1 := Aside0.mk (Only.trans HW.out (Only.grown hg fun i hi => P0.out i hi)); clear hg H0 H1 H2 HA HW
  obtain ⟨b1, b2⟩ := lay (Below.refl _ _) HA1.out
  go_wp2_with fail
  clear b1 b2
  go_at_call 31
  refine (markRequestS _ base _ A1 c1 x.qs (k + 7 * x.vs.length) (by have := HL.out; omega) K1.out).mono ?_
  rintro e w2 ⟨rfl, hg⟩
  have HA2 := Aside0.mk (blk_grown HA1.out hg (HNE.out _ fun i hi => (P1.out i hi).2))
  have J2 := Aside0.mk (R_other K2.out hg (row_ty K1.out) (by decide))
  have HW2 := Aside0.mk (Only.trans HW1.out (Only.grown hg fun i hi => P1.out i hi)); clear hg K1 K2 HA1 HW1
  obtain ⟨b1, b2⟩ := lay (Below.refl _ _) HA2.out
  go_wp2_with fail
  clear b1 b2
  go_at_call 32
  refine (markRoadS _ base _ A2 c2 x.rs (k + 7 * x.vs.length + 12 * x.qs.length) (by have := HL.out; omega) J2.out).mono ?_
  rintro e w3 ⟨rfl, hg⟩
  have HW3 := Aside0.mk (Only.trans HW2.out (Only.grown hg fun i hi => P2.out i hi)); clear hg J2 HA2 HW2
  go_wp2
  go_ret
  exact ⟨⟨_, rfl, Int.natCast_nonneg _⟩, HW3.out⟩
end
end Go.Proofs.YteefopaoodfapaaDoor.L1
