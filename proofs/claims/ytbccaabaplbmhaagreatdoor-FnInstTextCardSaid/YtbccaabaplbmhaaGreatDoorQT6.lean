/- Numbers, tags and lines as bytes, as the reference tells them. Rows of rows of bytes; the fields of a place, as the reference tells them. The reference's draws: the cursor. A region whose order is open, made of two kinds of operations: floating ones, each of one value in every world of which J tells and writing nothing, and a chain, each operation of which waits for the one ahead. The chain is walked in its order; J is asked of each world between. -/
import Derived.Test.YtbccaabaplbmhaaGreatDoorQT5
import Derived.Lib.SmallJoins
import Derived.Test.YtbccaabaplbmhaaGreatDoorQT3
import Derived.Test.YtbccaabaplbmhaaGreatDoorQT4
import Derived.BigQuiet
namespace Go.Proofs.YtbccaabaplbmhaaGreatDoor.L1
open Go.RowKit Go.Proofs.YtbccaabaplbmhaaGreatDoorW.PrintWords Go.Proofs.YtbccaabaplbmhaaGreatDoor.B
set_option linter.unusedVariables false
set_option linter.unusedSimpArgs false
attribute [local go_sem] mk_cell mk_frozen
def kByte : Kd Int := Kd.flat 1 (fun n => [.int .u8 n]) (fun _ => rfl) (by intro x u hu; simp at hu; rcases hu with rfl; rfl)
theorem flat_lit {α : Type} {n : Nat} {enc : α → List Value} {hn : ∀ x, (enc x).length = n} {h1 : ∀ x, ∀ u ∈ enc x, u.oneCell' = true} {d : Kd α} (hd : d = Kd.flat n enc hn h1) (W : World) (base : Nat) (e : TypeId) (xs : List α) (hb : base ≤ W.heap.size) (hm : xs.length ≤ maxLen) :
    d.R e (W.alloc (.cells (xs.flatMap enc).toArray e)) base (fun _ => True) (.slice (some ⟨W.heap.size, 0, none⟩) xs.length xs.length) xs := by
  subst hd
  exact ⟨fun _ _ => trivial, OwnRow.lit W base (reps_flat hn xs) hb hm⟩
theorem le1 (x : Int) : [x].length ≤ maxLen := by show 1 ≤ 9223372036854775807; decide
section
variable {P : Program} {ops : Array Oper} {rest : List Oper} {o : Oper} {a : Act} {Q : Exit → Act → World → Prop} {α : Type} {n : Nat} {enc : α → List Value} {hn : ∀ x, (enc x).length = n} {h1 : ∀ x, ∀ u ∈ enc x, u.oneCell' = true}
end
/-- The rows' blocks are of bytes. -/
def Ty (W : World) (A : Option Addr) : Prop := ∀ ad : Addr, A = some ad → ∃ (cs : Array Value) (fr : Nat × Nat), W.heap[ad.block]? = some (Obj.cells cs 5 fr)
theorem Ty.below {W W' : World} {A : Option Addr} (h : Ty W A) (hb : Below W.heap.size W W') : Ty W' A := fun ad e => by
  obtain ⟨cs, fr, h⟩ := h ad e
  exact ⟨cs, fr, blk_below h hb⟩
theorem Ty.own {W : World} {base n c : Nat} {ok : Nat → Prop} {A : Option Addr} {xs : List Int} (h : kByte.R 5 W base ok (.slice A n c) xs) : Ty W A := fun ad e => by
  obtain ⟨inner, ho⟩ := Kd.R_own h
  obtain ⟨cells, hc⟩ := own_typed ho ad.block (by rw [e]; rfl)
  exact ⟨cells, _, hc⟩
def ByteRow (W : World) (v : Value) (xs : List Int) : Prop := ∃ A c, v = .slice A xs.length c ∧ kByte.C W A xs.length xs ∧ Ty W A
theorem ByteRow.of {W : World} {base : Nat} {ok : Nat → Prop} {v : Value} {xs : List Int} (h : kByte.R 5 W base ok v xs) : ByteRow W v xs := by
  obtain ⟨A, c, rfl, _, hc⟩ := Kd.R_reads h
  exact ⟨A, c, rfl, hc, Ty.own h⟩
/-- A block of rows of bytes. -/
def ReadFlds (w : World) (B : Nat) (fs : List (List Int)) : Prop := ∀ j, j < fs.length → ∃ A c, w.cell? ⟨B, j, none⟩ = some (.slice A (fs.getD j []).length c) ∧ kByte.C w A (fs.getD j []).length (fs.getD j [])
theorem ReadFlds.below {w w1 : World} {B : Nat} {fs : List (List Int)} (h : ReadFlds w B fs) (hb : Below w.heap.size w w1) : ReadFlds w1 B fs := by
  intro j hj
  obtain ⟨A, c, h1, h2⟩ := h j hj
  exact ⟨A, c, pw_cell_below hb h1, Kd.C_below h2 hb⟩
section
variable (w : World)
end
end Go.Proofs.YtbccaabaplbmhaaGreatDoor.L1
namespace Go.Proofs.YtbccaabaplbmhaaGreatDoor.L1
open Go.RowKit Go.Proofs.YtbccaabaplbmhaaGreatDoorW.PrintWords Go.Proofs.YtbccaabaplbmhaaGreatDoor.B
set_option linter.unusedVariables false
set_option linter.unusedSimpArgs false
attribute [local go_sem] mk_cell mk_frozen
/-- Slices, as a flat kind of one cell. -/
structure Sl where (A : Option Addr) (n c : Nat)
def kSl : Kd Sl := Kd.flat 1 (fun p => [.slice p.A p.n p.c]) (fun _ => rfl) (by intro x u hu; simp at hu; rcases hu with rfl; rfl)
def zSl : Sl := ⟨none, 0, 0⟩
/-- What the slices read. -/
def Flds (W : World) : List Sl → List (List Int) → Prop
  | [], [] => True
  | p :: ps, f :: fs => (p.n = f.length ∧ kByte.C W p.A f.length f ∧ Ty W p.A) ∧ Flds W ps fs
  | _, _ => False
theorem Flds.nil (W : World) : Flds W [] [] := trivial
theorem Flds.cons {W : World} {p : Sl} {f : List Int} {ps : List Sl} {fs : List (List Int)} (hn : p.n = f.length) (hc : kByte.C W p.A f.length f ∧ Ty W p.A) (h : Flds W ps fs) : Flds W (p :: ps) (f :: fs) := ⟨⟨hn, hc⟩, h⟩
theorem Flds.below {W W' : World} (hb : Below W.heap.size W W') : ∀ {ps : List Sl} {fs : List (List Int)}, Flds W ps fs → Flds W' ps fs
  | [], [], _ => trivial
  | p :: ps, f :: fs, h => ⟨⟨h.1.1, Kd.C_below h.1.2.1 hb, h.1.2.2.below hb⟩, Flds.below hb h.2⟩
theorem Flds.append {W : World} : ∀ {ps : List Sl} {fs : List (List Int)} {qs : List Sl} {gs : List (List Int)}, Flds W ps fs → Flds W qs gs → Flds W (ps ++ qs) (fs ++ gs)
  | [], [], _, _, _, h => h
  | p :: ps, f :: fs, qs, gs, h, h2 => ⟨h.1, Flds.append h.2 h2⟩
theorem Flds.len {W : World} : ∀ {ps : List Sl} {fs : List (List Int)}, Flds W ps fs → ps.length = fs.length
  | [], [], _ => rfl
  | p :: ps, f :: fs, h => by rw [List.length_cons, List.length_cons, Flds.len h.2]
theorem Flds.at {W : World} : ∀ {ps : List Sl} {fs : List (List Int)}, Flds W ps fs → ∀ j, j < fs.length → (ps.getD j zSl).n = (fs.getD j []).length ∧ kByte.C W (ps.getD j zSl).A (fs.getD j []).length (fs.getD j [])
  | [], [], _, _, hj => absurd hj (Nat.not_lt_zero _)
  | p :: ps, f :: fs, h, 0, _ => ⟨h.1.1, h.1.2.1⟩
  | p :: ps, f :: fs, h, j + 1, hj => Flds.at h.2 j (by rw [List.length_cons] at hj; omega)
theorem Flds.read {W : World} {ps : List Sl} {fs : List (List Int)} (h : Flds W ps fs) {B n : Nat} (hC : kSl.C W (some ⟨B, 0, none⟩) n ps) : ReadFlds W B fs := by
  intro j hj
  obtain ⟨h1, h2⟩ := h.at j hj
  have hn : ps.length = n := hC.1
  obtain ⟨ad, e0, t0, _⟩ := Kd.flat_cells (d := kSl) rfl hC zSl j (by rw [← hn, h.len]; exact hj)
  cases e0
  have := t0 _ rfl
  rw [Nat.mul_one, Addr.add_lit, Nat.zero_add] at this
  exact ⟨_, _, by rw [this, h1], h2⟩
theorem blk_lt' {W : World} {b : Nat} {o : Obj} (h : W.heap[b]? = some o) : b < W.heap.size := (Array.getElem?_eq_some_iff.1 h).1
theorem C_cells {W W' : World} (hk : ∀ a v, W.cell? a = some v → W'.cell? a = some v) {A : Option Addr} {n : Nat} {xs : List Int} (h : kByte.C W A n xs) : kByte.C W' A n xs :=
  ⟨h.1, h.2.1, fun hp => by
    obtain ⟨ad, e, hc⟩ := h.2.2 hp
    refine ⟨ad, e, fun j p hj => ?_⟩
    obtain ⟨cs, h1, h2, h3⟩ := hc j p hj
    exact ⟨cs, h1, h2, fun i u hu => hk _ _ (h3 i u hu)⟩⟩
theorem add_block (a : Addr) (n : Nat) : (a.add n).block = a.block := by unfold Addr.add; split <;> rfl
theorem C_grown {W W' : World} {row : Option Nat} (hg : W.grownBy W' row) {A : Option Addr} {n : Nat} {xs : List Int} (h : kByte.C W A n xs) (hne : ∀ ad, A = some ad → some ad.block ≠ row) : kByte.C W' A n xs :=
  ⟨h.1, h.2.1, fun hp => by
    obtain ⟨ad, e, hc⟩ := h.2.2 hp
    refine ⟨ad, e, fun j p hj => ?_⟩
    obtain ⟨cs, h1, h2, h3⟩ := hc j p hj
    exact ⟨cs, h1, h2, fun i u hu => World.grownBy.cell hg (h3 i u hu) (by rw [add_block]; exact hne ad e)⟩⟩
theorem Flds.grown {W W' : World} {base : Nat} {ok : Nat → Prop} {v : Value} {xs : List Sl} (hr : kSl.R 22 W base ok v xs) (hg : W.grownBy W' v.ownBlock) : ∀ {ps : List Sl} {fs : List (List Int)}, Flds W ps fs → Flds W' ps fs
  | [], [], _ => trivial
  | p :: ps, f :: fs, h => by
    have hne : ∀ ad : Addr, p.A = some ad → some ad.block ≠ v.ownBlock := fun ad e he => by
      obtain ⟨cs, fr, h1⟩ := h.1.2.2 ad e
      obtain ⟨inner, ho⟩ := Kd.R_own hr
      obtain ⟨cells, hc⟩ := own_typed ho ad.block he.symm
      rw [h1] at hc
      cases hc
    refine ⟨⟨h.1.1, C_grown hg h.1.2.1 hne, fun ad e => ?_⟩, Flds.grown hr hg h.2⟩
    obtain ⟨cs, fr, h1⟩ := h.1.2.2 ad e
    exact ⟨cs, fr, (hg.block _ (blk_lt' h1) (hne ad e)).trans h1⟩
def BytesP (xs : List Int) (v : Value) (lo : Nat) (W : World) : Prop := ByteRow W v xs
theorem BytesP.stays (w0 : World) (xs : List Int) : GrowK.Stays w0 (BytesP xs) := fun v lo W W' hb h => by
  obtain ⟨A, c, e, h, ht⟩ := h
  exact ⟨A, c, e, C_cells hb.2.1 h, fun ad e => by
    obtain ⟨cs, fr, h1⟩ := ht ad e
    obtain ⟨fr', h2⟩ := hb.2.2 _ _ _ _ h1
    exact ⟨cs, fr', h2⟩⟩
theorem BytesP.of {base : Nat} {ok : Nat → Prop} {W : World} {v : Value} {xs : List Int} {lo : Nat} (h : kByte.R 5 W base ok v xs) : BytesP xs v lo W := ByteRow.of h
/-- A constant's row, ahead of the turn to bytes. -/
def LitP (base : Nat) (xs : List Int) (v : Value) (lo : Nat) (W : World) : Prop := base ≤ lo ∧ ∃ fr, v = .slice (some ⟨lo, 0, none⟩) xs.length xs.length ∧ W.heap[lo]? = some (.cells (xs.map (Value.int .u8)).toArray 5 fr)
theorem LitP.stays (w0 : World) (base : Nat) (xs : List Int) : GrowK.Stays w0 (LitP base xs) := fun v lo W W' hb h => by
  obtain ⟨h0, fr, e, h⟩ := h
  obtain ⟨fr', h'⟩ := hb.2.2 _ _ _ _ h
  exact ⟨h0, fr', e, h'⟩
theorem sl_max (n : Nat) (h : n ≤ 100) : n ≤ maxLen := by simp only [maxLen]; omega
section
variable (w : World)
end
end Go.Proofs.YtbccaabaplbmhaaGreatDoor.L1
namespace Go.Proofs.YtbccaabaplbmhaaGreatDoor.L1
open Go.RowKit Go.Proofs.YtbccaabaplbmhaaGreatDoorW.PrintWords Go.Proofs.YtbccaabaplbmhaaGreatDoor.B
set_option linter.unusedVariables false
set_option linter.unusedSimpArgs false
attribute [local go_sem] mk_cell mk_frozen
theorem i64_and255 (n : Int) : bits .and .i64 n 255 = n % 256 := by
  have h1 : (BitVec.ofInt 64 255).toNat = 2 ^ 8 - 1 := by decide
  have key : (BitVec.ofInt 64 n &&& BitVec.ofInt 64 255).toNat = (n % ((2 ^ 64 : Nat) : Int)).toNat % 2 ^ 8 := by
    rw [BitVec.toNat_and, BitVec.toNat_ofInt, h1, Nat.and_two_pow_sub_one_eq_mod]
  show IntKind.i64.wrap ((BitVec.ofInt 64 n &&& BitVec.ofInt 64 255).toNat : Nat) = n % 256
  rw [key, IntKind.wrap_i64]
  omega
/-- Where a cursor stands, what it holds. -/
structure Cu where (i : Nat) (h : Int)
def hN (h : Int) : Int := bits .and .i64 (wrap64 (wrap64 (h * 1103515245) + 12345)) 2147483647
def xN (h : Int) : Int := bits .and .i64 (hN h / 32768) 255
def byteD (bs : List Int) (s : Cu) : Int × Cu := if s.i < bs.length then (bits .and .i64 (wrap64 (xN s.h + wrap64 (bs.getD s.i 0))) 255, ⟨s.i + 1, hN s.h⟩) else (xN s.h, ⟨s.i, hN s.h⟩)
theorem byteD_bd (bs : List Int) (s : Cu) : 0 ≤ (byteD bs s).1 ∧ (byteD bs s).1 < 256 := by
  unfold byteD
  split
  · simp only [i64_and255]; omega
  · simp only [xN, i64_and255]; omega
structure CurAt (w0 : World) (g : Nat) (A : Option Addr) (c : Nat) (bs : List Int) (s : Cu) (W : World) : Prop where
  cur : W.heap[g]? = some (.cells #[.slice A bs.length c, .int .i64 s.i, .int .i64 s.h] 73 (0, 0))
  below : Below w0.heap.size w0 W
  ge : w0.heap.size ≤ g
  row : kByte.C w0 A bs.length bs
  len : bs.length ≤ 1048576
/-- What a draw leaves. -/
def After (w0 : World) (g : Nat) (A : Option Addr) (c : Nat) (bs : List Int) (s : Cu) (W W' : World) : Prop := CurAt w0 g A c bs s W' ∧ Tch (fun k => k = g) W W'
theorem CurAt.set {w0 W : World} {g : Nat} {A : Option Addr} {c : Nat} {bs : List Int} {s : Cu} (h : CurAt w0 g A c bs s W) (y : Int) : CurAt w0 g A c bs ⟨s.i, y⟩ (W.setCell ⟨g, 2, none⟩ (.int .i64 y)) :=
  ⟨blk_set h.cur 2 _, bel_set h.below h.ge _, h.ge, h.row, h.len⟩
theorem CurAt.next {w0 W : World} {g : Nat} {A : Option Addr} {c : Nat} {bs : List Int} {s : Cu} (h : CurAt w0 g A c bs s W) : CurAt w0 g A c bs ⟨s.i + 1, s.h⟩ (W.setCell ⟨g, 1, none⟩ (.int .i64 ((s.i : Int) + 1))) :=
  ⟨blk_set h.cur 1 _, bel_set h.below h.ge _, h.ge, h.row, h.len⟩
theorem CurAt.on {w0 W W' : World} {g : Nat} {A : Option Addr} {c : Nat} {bs : List Int} {s : Cu} (h : CurAt w0 g A c bs s W) (hb : Below W.heap.size W W') : CurAt w0 g A c bs s W' :=
  ⟨blk_below h.cur hb, bel_call h.below hb, h.ge, h.row, h.len⟩
section
variable (w : World)
set_option maxRecDepth 100000 in
set_option maxHeartbeats 4000000 in
theorem spec_byte (w0 : World) (g : Nat) (A : Option Addr) (c : Nat) (bs : List Int) (s : Cu) (hc : CurAt w0 g A c bs s w) : Calls Tryz.prog 56 #[.pointer (some ⟨g, 0, none⟩)] w fun e w' => e = .returned (.int .i64 (byteD bs s).1) ∧ After w0 g A c bs (byteD bs s).2 w w' := by
  obtain ⟨i, h⟩ := s
  obtain ⟨c1, c2⟩ := lay (Below.refl _ _) hc.cur
  have HC1 := Aside0.mk (hc.set (hN h))
  have HT1 := Aside0.mk (Tch.set (S := fun k => k = g) (W := w) (b := g) (o := 2) (v := .int .i64 (hN h)) rfl)
  have hl := hc.len
  clear hc
  by_cases hi : i < bs.length
  · have HD := Aside0.mk (show byteD bs ⟨i, h⟩ = (bits .and .i64 (wrap64 (xN h + wrap64 (bs.getD i 0))) 255, ⟨i + 1, hN h⟩) from if_pos hi)
    have hi2 : decide ((i : Int) < (bs.length : Int)) = true := decide_eq_true (by omega)
    go_enter Tryz.func56, Tryz.ntmps56
    go_wp2_with fail
    clear c1 c2
    rw [show bits .and .i64 (bits .and .i64 (wrap64 (wrap64 (h * 1103515245) + 12345)) 2147483647 / 32768) 255 = xN h from rfl, show bits .and .i64 (wrap64 (wrap64 (h * 1103515245) + 12345)) 2147483647 = hN h from rfl]
    generalize w.setCell ⟨g, 2, none⟩ (.int .i64 (hN h)) = w1 at HC1 HT1 ⊢
    obtain ⟨c1, c2⟩ := lay (Below.refl _ _) HC1.out.cur
    go_quiet (fail)
    clear c1 c2
    have HB2 := Aside0.mk (pw_below_drewN (Below.refl w1.heap.size w1) nq)
    generalize w1.drewN nq = w2 at HB2 ⊢
    clear nq
    have HC2 := Aside0.mk (HC1.out.on HB2.out)
    have HT2 := Aside0.mk (HT1.out.trans (Tch.of_below HB2.out))
    clear HB2 HC1 HT1
    obtain ⟨ad, e0, t0, _⟩ := Kd.flat_cells (d := kByte) rfl (Kd.C_below HC2.out.row HC2.out.below) 0 i hi
    cases e0
    have z0 := t0 _ rfl
    simp only [Nat.mul_one] at z0
    clear t0
    generalize bs.getD i 0 = y at z0 HD
    obtain ⟨c1, c2⟩ := lay (Below.refl _ _) HC2.out.cur
    go_wp2_with fail
    go_quiet (fail)
    clear c1 c2
    have HB3 := Aside0.mk (pw_below_drewN (Below.refl w2.heap.size w2) nq)
    generalize w2.drewN nq = w3 at HB3 ⊢
    have HC3 := Aside0.mk (HC2.out.on HB3.out)
    have HT3 := Aside0.mk (HT2.out.trans (Tch.of_below HB3.out))
    clear HB3 HC2 HT2
    obtain ⟨c1, c2⟩ := lay (Below.refl _ _) HC3.out.cur
    have q0 : wrap64 ((i : Int) + 1) = (i : Int) + 1 := IntWalk.wrap64_in _ (by omega)
    go_wp2
    go_ret
    exact ⟨by rw [HD.out] <;> rfl, by rw [HD.out]; exact ⟨HC3.out.next, HT3.out.trans (Tch.set rfl)⟩⟩
  · have HD := Aside0.mk (show byteD bs ⟨i, h⟩ = (xN h, ⟨i, hN h⟩) from if_neg hi)
    have hi2 : decide ((i : Int) < (bs.length : Int)) = false := decide_eq_false (by omega)
    go_enter Tryz.func56, Tryz.ntmps56
    go_wp2_with fail
    clear c1 c2
    rw [show bits .and .i64 (bits .and .i64 (wrap64 (wrap64 (h * 1103515245) + 12345)) 2147483647 / 32768) 255 = xN h from rfl, show bits .and .i64 (wrap64 (wrap64 (h * 1103515245) + 12345)) 2147483647 = hN h from rfl]
    generalize w.setCell ⟨g, 2, none⟩ (.int .i64 (hN h)) = w1 at HC1 HT1 ⊢
    obtain ⟨c1, c2⟩ := lay (Below.refl _ _) HC1.out.cur
    go_quiet (fail)
    clear c1 c2
    have HB2 := Aside0.mk (pw_below_drewN (Below.refl w1.heap.size w1) nq)
    generalize w1.drewN nq = w2 at HB2 ⊢
    clear nq
    go_wp2
    go_ret
    exact ⟨by rw [HD.out] <;> rfl, by rw [HD.out]; exact ⟨HC1.out.on HB2.out, HT1.out.trans (Tch.of_below HB2.out)⟩⟩
/-- One of n. -/
def belowD (bs : List Int) (n : Int) (s : Cu) : Int × Cu :=
  if n ≤ 256 then ((byteD bs s).1.tmod n, (byteD bs s).2)
  else ((wrap64 (wrap64 (wrap64 ((byteD bs s).1 * 65536) + wrap64 ((byteD bs (byteD bs s).2).1 * 256)) + (byteD bs (byteD bs (byteD bs s).2).2).1)).tmod n, (byteD bs (byteD bs (byteD bs s).2).2).2)
theorem belowD_bd (bs : List Int) (n : Int) (s : Cu) (h0 : 0 < n) (h1 : n ≤ 256) : 0 ≤ (belowD bs n s).1 ∧ (belowD bs n s).1 < n := by
  unfold belowD
  rw [if_pos h1]
  have := byteD_bd bs s
  exact ⟨Int.tmod_nonneg _ this.1, Int.tmod_lt_of_pos _ h0⟩
set_option maxRecDepth 100000 in
set_option maxHeartbeats 4000000 in
theorem spec_below (w0 : World) (g : Nat) (A : Option Addr) (c : Nat) (bs : List Int) (s : Cu) (n : Int) (h0 : 0 < n) (h1 : n ≤ 1000000) (hc : CurAt w0 g A c bs s w) : Calls Tryz.prog 30 #[.pointer (some ⟨g, 0, none⟩), .int .i64 n] w fun e w' => e = .returned (.int .i64 (belowD bs n s).1) ∧ After w0 g A c bs (belowD bs n s).2 w w' := by
  have HC := Aside0.mk hc
  have HN := Aside0.mk (And.intro h0 h1)
  have hz : ¬ n = 0 := by omega
  have hm : ¬ n = -1 := by omega
  have hz' : (n == 0) = false := beq_false_of_ne hz
  have hm' : (n == -1) = false := beq_false_of_ne hm
  clear hc h0 h1
  by_cases hn : n ≤ 256
  · have HD := Aside0.mk (show belowD bs n s = ((byteD bs s).1.tmod n, (byteD bs s).2) from if_pos hn)
    have hd : decide (n ≤ 256) = true := decide_eq_true hn
    go_enter Tryz.func30, Tryz.ntmps30
    go_wp2_with fail
    go_at_call 56
    refine (spec_byte _ w0 g A c bs s HC.out).mono ?_
    rintro e w1 ⟨rfl, ha⟩
    have HA := Aside0.mk ha
    clear ha
    generalize byteD bs s = r at HD HA ⊢
    go_wp2
    go_ret
    exact ⟨by rw [HD.out] <;> rfl, by rw [HD.out]; exact HA.out⟩
  · have HD := Aside0.mk (show belowD bs n s = ((wrap64 (wrap64 (wrap64 ((byteD bs s).1 * 65536) + wrap64 ((byteD bs (byteD bs s).2).1 * 256)) + (byteD bs (byteD bs (byteD bs s).2).2).1)).tmod n, (byteD bs (byteD bs (byteD bs s).2).2).2) from if_neg hn)
    have hd : decide (n ≤ 256) = false := decide_eq_false hn
    go_enter Tryz.func30, Tryz.ntmps30
    go_wp2_with fail
    go_at_call 56
    refine (spec_byte _ w0 g A c bs s HC.out).mono ?_
    rintro e w1 ⟨rfl, ha⟩
    have HA := Aside0.mk ha
    clear ha
    generalize byteD bs s = r at HD HA ⊢
    go_wp2_with fail
    go_at_call 56
    refine (spec_byte _ w0 g A c bs r.2 HA.out.1).mono ?_
    rintro e w2 ⟨rfl, ha⟩
    have HA2 := Aside0.mk (And.intro ha.1 (HA.out.2.trans ha.2))
    clear ha HA
    generalize byteD bs r.2 = r2 at HD HA2 ⊢
    go_wp2_with fail
    go_at_call 56
    refine (spec_byte _ w0 g A c bs r2.2 HA2.out.1).mono ?_
    rintro e w3 ⟨rfl, ha⟩
    have HA3 := Aside0.mk (And.intro ha.1 (HA2.out.2.trans ha.2))
    clear ha HA2
    generalize byteD bs r2.2 = r3 at HD HA3 ⊢
    go_wp2
    go_ret
    exact ⟨by rw [HD.out] <;> rfl, by rw [HD.out]; exact HA3.out⟩
/-- lo .. hi. -/
def rangeD (bs : List Int) (lo hi : Int) (s : Cu) : Int × Cu := (wrap64 (lo + (belowD bs (wrap64 (wrap64 (hi - lo) + 1)) s).1), (belowD bs (wrap64 (wrap64 (hi - lo) + 1)) s).2)
theorem rangeD_bd (bs : List Int) (lo hi : Int) (s : Cu) (h0 : -1000 ≤ lo) (h1 : lo ≤ hi) (h2 : hi ≤ lo + 200) (h3 : lo ≤ 1000) : lo ≤ (rangeD bs lo hi s).1 ∧ (rangeD bs lo hi s).1 ≤ hi := by
  unfold rangeD
  rw [IntWalk.wrap64_in (hi - lo) (by omega), IntWalk.wrap64_in (hi - lo + 1) (by omega)]
  have := belowD_bd bs (hi - lo + 1) s (by omega) (by omega)
  rw [IntWalk.wrap64_in _ (by omega)]
  omega
set_option maxHeartbeats 4000000 in
theorem spec_range (w0 : World) (g : Nat) (A : Option Addr) (c : Nat) (bs : List Int) (s : Cu) (lo hi : Int) (h0 : -1000 ≤ lo) (h1 : lo ≤ hi) (h2 : hi ≤ lo + 200) (h3 : lo ≤ 1000) (hc : CurAt w0 g A c bs s w) : Calls Tryz.prog 28 #[.pointer (some ⟨g, 0, none⟩), .int .i64 lo, .int .i64 hi] w fun e w' => e = .returned (.int .i64 (rangeD bs lo hi s).1) ∧ After w0 g A c bs (rangeD bs lo hi s).2 w w' := by
  have HC := Aside0.mk hc
  have hq : wrap64 (wrap64 (hi - lo) + 1) = hi - lo + 1 := by rw [IntWalk.wrap64_in (hi - lo) (by omega), IntWalk.wrap64_in (hi - lo + 1) (by omega)]
  have HP := Aside0.mk (show 0 < wrap64 (wrap64 (hi - lo) + 1) ∧ wrap64 (wrap64 (hi - lo) + 1) ≤ 1000000 by rw [hq]; omega)
  have HD := Aside0.mk (show rangeD bs lo hi s = (wrap64 (lo + (belowD bs (wrap64 (wrap64 (hi - lo) + 1)) s).1), (belowD bs (wrap64 (wrap64 (hi - lo) + 1)) s).2) from rfl)
  clear hc h0 h1 h2 h3 hq
  go_enter Tryz.func28, Tryz.ntmps28
  go_wp2_with fail
  go_at_call 30
  refine (spec_below _ w0 g A c bs s _ HP.out.1 HP.out.2 HC.out).mono ?_
  rintro e w1 ⟨rfl, ha⟩
  have HA := Aside0.mk ha
  clear ha
  generalize belowD bs (wrap64 (wrap64 (hi - lo) + 1)) s = r at HD HA ⊢
  go_wp2
  go_ret
  exact ⟨by rw [HD.out] <;> rfl, by rw [HD.out]; exact HA.out⟩
/-- True once in n. -/
def onceD (bs : List Int) (n : Int) (s : Cu) : Bool × Cu := ((belowD bs n s).1 == 0, (belowD bs n s).2)
set_option maxHeartbeats 4000000 in
theorem spec_once (w0 : World) (g : Nat) (A : Option Addr) (c : Nat) (bs : List Int) (s : Cu) (n : Int) (h0 : 0 < n) (h1 : n ≤ 1000000) (hc : CurAt w0 g A c bs s w) : Calls Tryz.prog 29 #[.pointer (some ⟨g, 0, none⟩), .int .i64 n] w fun e w' => e = .returned (.bool (onceD bs n s).1) ∧ After w0 g A c bs (onceD bs n s).2 w w' := by
  have HC := Aside0.mk hc
  have HP := Aside0.mk (And.intro h0 h1)
  have HD := Aside0.mk (show onceD bs n s = ((belowD bs n s).1 == 0, (belowD bs n s).2) from rfl)
  clear hc h0 h1
  go_enter Tryz.func29, Tryz.ntmps29
  go_wp2_with fail
  go_at_call 30
  refine (spec_below _ w0 g A c bs s n HP.out.1 HP.out.2 HC.out).mono ?_
  rintro e w1 ⟨rfl, ha⟩
  have HA := Aside0.mk ha
  clear ha
  generalize belowD bs n s = r at HD HA ⊢
  go_wp2
  go_ret
  exact ⟨by rw [HD.out] <;> rfl, by rw [HD.out]; exact HA.out⟩
def tagSetD (bs : List Int) (s : Cu) : Int × Cu :=
  match onceD bs 12 s with
  | (true, s1) => belowD bs 65536 s1
  | (false, s1) => match belowD bs 16 s1 with
    | (a, s2) => match belowD bs 16 s2 with
      | (b, s3) => match onceD bs 2 s3 with
        | (true, s4) => (bits .and .i64 a b, s4)
        | (false, s4) => (a, s4)
set_option maxRecDepth 100000 in
set_option maxHeartbeats 4000000 in
theorem spec_tagSet (w0 : World) (g : Nat) (A : Option Addr) (c : Nat) (bs : List Int) (s : Cu) (hc : CurAt w0 g A c bs s w) : Calls Tryz.prog 31 #[.pointer (some ⟨g, 0, none⟩)] w fun e w' => e = .returned (.int .i64 (tagSetD bs s).1) ∧ After w0 g A c bs (tagSetD bs s).2 w w' := by
  have HC0 := Aside0.mk hc
  obtain ⟨res, hres⟩ : ∃ res, tagSetD bs s = res := ⟨_, rfl⟩
  rw [hres]
  have HD := Aside0.mk hres
  clear hc hres
  unfold tagSetD at HD
  go_enter Tryz.func31, Tryz.ntmps31
  go_wp2_with fail
  go_at_call 29
  refine (spec_once _ w0 g A c bs s 12 (by decide) (by decide) HC0.out).mono ?_
  rintro e w1 ⟨rfl, ha⟩
  have HC1 := Aside0.mk ha.1; have HT1 := Aside0.mk ha.2; clear ha
  generalize onceD bs 12 s = r at HD HC1 ⊢
  obtain ⟨b1, s1⟩ := r
  cases b1
  · simp only at HD HC1
    go_wp2_with fail
    go_at_call 30
    refine (spec_below _ w0 g A c bs s1 16 (by decide) (by decide) HC1.out).mono ?_
    rintro e w2 ⟨rfl, ha⟩
    have HC2 := Aside0.mk ha.1; have HT2 := Aside0.mk (HT1.out.trans ha.2); clear ha HC1 HT1
    generalize belowD bs 16 s1 = r at HD HC2 ⊢
    obtain ⟨x2, s2⟩ := r
    simp only at HD HC2
    go_wp2_with fail
    go_at_call 30
    refine (spec_below _ w0 g A c bs s2 16 (by decide) (by decide) HC2.out).mono ?_
    rintro e w3 ⟨rfl, ha⟩
    have HC3 := Aside0.mk ha.1; have HT3 := Aside0.mk (HT2.out.trans ha.2); clear ha HC2 HT2
    generalize belowD bs 16 s2 = r at HD HC3 ⊢
    obtain ⟨x3, s3⟩ := r
    simp only at HD HC3
    go_wp2_with fail
    go_at_call 29
    refine (spec_once _ w0 g A c bs s3 2 (by decide) (by decide) HC3.out).mono ?_
    rintro e w4 ⟨rfl, ha⟩
    have HC4 := Aside0.mk ha.1; have HT4 := Aside0.mk (HT3.out.trans ha.2); clear ha HC3 HT3
    generalize onceD bs 2 s3 = r at HD HC4 ⊢
    obtain ⟨b4, s4⟩ := r
    cases b4
    · simp only at HD HC4
      go_wp2
      go_ret
      exact ⟨by rw [← HD.out] <;> rfl, by rw [← HD.out]; exact ⟨HC4.out, HT4.out⟩⟩
    · simp only at HD HC4
      go_wp2
      go_ret
      exact ⟨by rw [← HD.out] <;> rfl, by rw [← HD.out]; exact ⟨HC4.out, HT4.out⟩⟩
  · simp only at HD HC1
    go_wp2_with fail
    go_at_call 30
    refine (spec_below _ w0 g A c bs s1 65536 (by decide) (by decide) HC1.out).mono ?_
    rintro e w2 ⟨rfl, ha⟩
    have HC2 := Aside0.mk ha.1; have HT2 := Aside0.mk (HT1.out.trans ha.2); clear ha HC1 HT1
    rw [HD.out] at HC2 ⊢
    go_wp2
    go_ret
    exact ⟨rfl, HC2.out, HT2.out⟩
def hTo (bs : List Int) : Nat → Int
  | 0 => 12345 + (bs.length : Int)
  | k + 1 => bits .and .i64 (wrap64 (wrap64 (wrap64 (hTo bs k * 131) + wrap64 (bs.getD k 0)) + 7)) 1073741823
def newD (bs : List Int) : Cu := ⟨0, hTo bs bs.length⟩
set_option maxRecDepth 100000 in
set_option maxHeartbeats 4000000 in
theorem spec_new (A : Option Addr) (c : Nat) (bs : List Int) (hr : kByte.C w A bs.length bs) (hl : bs.length ≤ 1048576) : Calls Tryz.prog 9 #[.slice A bs.length c] w fun e w' => ∃ g, e = .returned (.pointer (some ⟨g, 0, none⟩)) ∧ CurAt w g A c bs (newD bs) w' ∧ Below w.heap.size w w' := by
  have HR := Aside0.mk hr
  clear hr
  go_enter Tryz.func9, Tryz.ntmps9
  go_wp2_with fail
  go_loopg [3, 4] (bs.length + 1) (fun q v3 v4 wr => ∃ k : Nat, q = bs.length + 1 - k ∧ k ≤ bs.length ∧ v3 = .int .i64 (hTo bs k) ∧ v4 = .int .i64 k ∧ wr = w)
  case atStart => exact ⟨0, by omega, by omega, rfl, rfl, rfl⟩
  case round =>
    obtain ⟨k, rfl, hk, rfl, rfl, rfl⟩ := hrel
    by_cases hlt : k < bs.length
    · obtain ⟨ad, e0, t0, _⟩ := Kd.flat_cells (d := kByte) rfl HR.out 0 k hlt
      cases e0
      have z0 := t0 _ rfl
      simp only [Nat.mul_one] at z0
      clear t0
      have HH := Aside0.mk (show hTo bs (k + 1) = bits .and .i64 (wrap64 (wrap64 (wrap64 (hTo bs k * 131) + wrap64 (bs.getD k 0)) + 7)) 1073741823 from rfl)
      generalize bs.getD k 0 = y at z0 HH
      generalize hTo bs k = hk0 at HH ⊢
      go_wp2_with fail
      go_roundg (bs.length + 1 - (k + 1))
      case measure => omega
      case rel => exact ⟨k + 1, rfl, hlt, by rw [HH.out], by go_num, rfl⟩
    · have hkl : k = bs.length := by omega
      subst hkl
      go_wp2
      go_ret
      exact ⟨_, rfl, ⟨al_new _ _, below_alloc (Below.refl _ _) _, Nat.le_refl _, HR.out, hl⟩, below_alloc (Below.refl _ _) _⟩
def sizeD (n : Nat) : Int := if 6 < 4 + (n : Int) / 48 then 6 else 4 + (n : Int) / 48
theorem sizeD_bd (n : Nat) : 4 ≤ sizeD n ∧ sizeD n ≤ 6 := by
  unfold sizeD
  split <;> omega
set_option maxHeartbeats 4000000 in
theorem spec_size (A : Option Addr) (c : Nat) (n : Nat) (hn : n ≤ 1048576) : Calls Tryz.prog 11 #[.slice A n c, .int .i64 6] w fun e w' => e = .returned (.int .i64 (sizeD n)) ∧ w = w' := by
  go_enter Tryz.func11, Tryz.ntmps11
  go_wp2
  · rename_i h
    go_ret
    refine ⟨?_, rfl⟩
    unfold sizeD
    first | rw [if_pos h] <;> rfl | rw [if_neg (by omega)] <;> rfl
  · rename_i h
    go_ret
    refine ⟨?_, rfl⟩
    unfold sizeD
    first | rw [if_pos h] <;> rfl | rw [if_neg (by omega)] <;> rfl
end
end Go.Proofs.YtbccaabaplbmhaaGreatDoor.L1
set_option linter.unusedVariables false
namespace Go.Proofs.YtbccaabaplbmhaaGreatDoor.Flo
open Go.RowKit Go.Proofs.YtbccaabaplbmhaaGreatDoorW.PrintWords Go.Proofs.YtbccaabaplbmhaaGreatDoor.B Go.Proofs.YtbccaabaplbmhaaGreatDoor.Grow
section
variable {P : Program} {ops : Array Oper}
/-- The operation gives v and leaves the world. -/
def UponE (P : Program) (v : Value) (W : World) : Result Next → Prop
  | .ok (.value u) w => u = v ∧ w = W
  | .ok .skip w => undef = v ∧ w = W
  | .ok (.enter f args) w => w = W ∧ Calls P f args W fun e w' => e = .returned v ∧ w' = W
  | _ => False
theorem UponE.val {v : Value} {W : World} : UponE P v W (.ok (.value v) W) := ⟨rfl, rfl⟩
theorem UponE.skip {W : World} : UponE P undef W (.ok .skip W) := ⟨rfl, rfl⟩
theorem UponE.call {v : Value} {W : World} {f : FuncId} {args : Array Value} (h : Calls P f args W fun e w' => e = .returned v ∧ w' = W) : UponE P v W (.ok (.enter f args) W) := ⟨rfl, h⟩
/-- The operation goes on by K. -/
def UponC (P : Program) (K : Value → World → Prop) : Result Next → Prop
  | .ok (.value u) w => K u w
  | .ok .skip w => K undef w
  | .ok (.enter f args) w => Calls P f args w fun e w' => ∃ v, e = .returned v ∧ K v w'
  | _ => False
theorem UponC.val {K : Value → World → Prop} {v : Value} {w : World} (h : K v w) : UponC P K (.ok (.value v) w) := h
theorem UponC.skip {K : Value → World → Prop} {w : World} (h : K undef w) : UponC P K (.ok .skip w) := h
theorem UponC.enter {K : Value → World → Prop} {f : FuncId} {args : Array Value} {w : World} (h : Calls P f args w fun e w' => ∃ v, e = .returned v ∧ K v w') : UponC P K (.ok (.enter f args) w) := h
theorem UponC.mono {K K' : Value → World → Prop} (hK : ∀ v w, K v w → K' v w) {r : Result Next} (h : UponC P K r) : UponC P K' r := by
  cases r with
  | ok x w =>
    cases x <;> simp only [UponC] at h ⊢
    case value u => exact hK _ _ h
    case skip => exact hK _ _ h
    case enter f args => exact h.mono fun e w' ⟨v, he, h1⟩ => ⟨v, he, hK _ _ h1⟩
  | halt x w => simp only [UponC] at h
theorem wp_of_uponE {o : Oper} {a : Act} {K : Act → World → Prop} {Q : Exit → Act → World → Prop} {W : World} {v : Value} (h : UponE P v W ((execOp a.eval o).run P W)) (hK : K (a.put o.dst v) W) : o.wp P a W K Q := by
  unfold Oper.wp
  cases hr : (execOp a.eval o).run P W with
  | ok x w' =>
    rw [hr] at h
    cases x <;> simp only [UponE] at h <;> simp only [Oper.upon]
    case value u => obtain ⟨rfl, rfl⟩ := h; exact hK
    case skip => obtain ⟨rfl, rfl⟩ := h; exact hK
    case enter f args => obtain ⟨rfl, h⟩ := h; exact h.mono fun e w'' ⟨he, hw⟩ => by subst he; subst hw; exact hK
  | halt x w' => rw [hr] at h; simp only [UponE] at h
theorem wp_of_uponC {o : Oper} {a : Act} {K : Act → World → Prop} {Q : Exit → Act → World → Prop} {W : World} (h : UponC P (fun v W' => K (a.put o.dst v) W') ((execOp a.eval o).run P W)) : o.wp P a W K Q := by
  unfold Oper.wp
  cases hr : (execOp a.eval o).run P W with
  | ok x w' =>
    rw [hr] at h
    cases x <;> simp only [UponC] at h <;> simp only [Oper.upon]
    case value u => exact h
    case skip => exact h
    case enter f args => exact h.mono fun e w'' ⟨v, he, hw⟩ => by subst he; exact hw
  | halt x w' => rw [hr] at h; simp only [UponC] at h
/-- The floating operations, as the text has them; the mask tells the chain. -/
def LexE (P : Program) (J : World → Prop) (K : Act → Prop) : List Bool → List Oper → Act → Prop
  | true :: m, _ :: r, a => LexE P J K m r a
  | false :: m, o :: r, a => ∃ v, (∀ W, J W → UponE P v W ((execOp a.eval o).run P W)) ∧ LexE P J K m r (a.put o.dst v)
  | _, _, a => K a
def chainOf : Nat → List Bool → List Oper → List (Nat × Oper)
  | k, true :: m, o :: r => (k, o) :: chainOf (k + 1) m r
  | k, false :: m, _ :: r => chainOf (k + 1) m r
  | _, _, _ => []
/-- The chain; J is asked as long as the operation M has not come. -/
def Chain (P : Program) (J : World → Prop) (M : Nat) (K : Act → World → Prop) : List (Nat × Oper) → Act → World → Prop
  | [], a, W => K a W
  | q :: r, a, W => (q.1 ≤ M → J W) ∧ UponC P (fun v W' => Chain P J M K r (a.put q.2.dst v) W') ((execOp a.eval q.2).run P W)
/-- What is put yet: the floating operations that p does not tell. -/
def fillE (p : Nat → Bool) (EL : List (Nat × Option Tmp × Value)) (a : Act) : Act := EL.foldl (fun a q => if p q.1 = true then a else a.put q.2.1 q.2.2) a
def putE (EL : List (Nat × Option Tmp × Value)) (a : Act) : Act := EL.foldl (fun a q => a.put q.2.1 q.2.2) a
theorem fillE_put {p : Nat → Bool} {d : Option Tmp} {v : Value} : ∀ (EL : List (Nat × Option Tmp × Value)) (a : Act), (∀ q ∈ EL, ∀ t, q.2.1 = some t → d ≠ some t) → fillE p EL (a.put d v) = (fillE p EL a).put d v
  | [], a, _ => rfl
  | q :: EL, a, h => by
    show fillE p EL (if p q.1 = true then a.put d v else (a.put d v).put q.2.1 q.2.2) = (fillE p EL (if p q.1 = true then a else a.put q.2.1 q.2.2)).put d v
    split
    · exact fillE_put EL a (fun q' hq => h q' (List.mem_cons_of_mem _ hq))
    · rw [← fillE_put EL _ (fun q' hq => h q' (List.mem_cons_of_mem _ hq))]
      congr 1
      exact (Act.put_comm a q.2.2 v (fun t ht => h q List.mem_cons_self t ht)).symm
theorem fillE_same {p p' : Nat → Bool} : ∀ (EL : List (Nat × Option Tmp × Value)) (a : Act), (∀ q ∈ EL, p q.1 = p' q.1) → fillE p EL a = fillE p' EL a
  | [], a, _ => rfl
  | q :: EL, a, h => by
    show fillE p EL (if p q.1 = true then a else a.put q.2.1 q.2.2) = fillE p' EL (if p' q.1 = true then a else a.put q.2.1 q.2.2)
    rw [h q List.mem_cons_self]
    exact fillE_same EL _ (fun q' hq => h q' (List.mem_cons_of_mem _ hq))
theorem fillE_all {p : Nat → Bool} : ∀ (EL : List (Nat × Option Tmp × Value)) (a : Act), (∀ q ∈ EL, p q.1 = true) → fillE p EL a = a
  | [], a, _ => rfl
  | q :: EL, a, h => by
    show fillE p EL (if p q.1 = true then a else a.put q.2.1 q.2.2) = a
    rw [if_pos (h q List.mem_cons_self)]
    exact fillE_all EL a (fun q' hq => h q' (List.mem_cons_of_mem _ hq))
theorem fillE_none {p : Nat → Bool} : ∀ (EL : List (Nat × Option Tmp × Value)) (a : Act), (∀ q ∈ EL, p q.1 = false) → fillE p EL a = putE EL a
  | [], a, _ => rfl
  | q :: EL, a, h => by
    show fillE p EL (if p q.1 = true then a else a.put q.2.1 q.2.2) = putE EL (a.put q.2.1 q.2.2)
    rw [if_neg (by rw [h q List.mem_cons_self]; decide)]
    exact fillE_none EL _ (fun q' hq => h q' (List.mem_cons_of_mem _ hq))
/-- One floating operation done. -/
theorem fillE_done {p : Nat → Bool} {k : Nat} {d : Option Tmp} {v : Value} (hp : p k = false) : ∀ (EL : List (Nat × Option Tmp × Value)) (a : Act), EL.Pairwise (fun q r => q.1 ≠ r.1 ∧ ∀ t, q.2.1 = some t → r.2.1 ≠ some t) → (k, d, v) ∈ EL → fillE (fun j => p j || j == k) EL (a.put d v) = fillE p EL a
  | [], a, _, h => by cases h
  | q :: EL, a, hw, h => by
    obtain ⟨h1, h2⟩ := List.pairwise_cons.1 hw
    have e1 : fillE (fun j => p j || j == k) (q :: EL) (a.put d v) = fillE (fun j => p j || j == k) EL (if (p q.1 || q.1 == k) = true then a.put d v else (a.put d v).put q.2.1 q.2.2) := rfl
    have e2 : fillE p (q :: EL) a = fillE p EL (if p q.1 = true then a else a.put q.2.1 q.2.2) := rfl
    rw [e1, e2]
    rcases List.mem_cons.1 h with hq | hm
    · rw [show q.1 = k by rw [← hq], show q.2.1 = d by rw [← hq], show q.2.2 = v by rw [← hq], if_pos (show (p k || k == k) = true by simp), if_neg (show ¬ p k = true by rw [hp]; decide)]
      exact fillE_same EL _ fun r hr => by
        have := (h1 r hr).1
        rw [← hq] at this
        show (p r.1 || r.1 == k) = p r.1
        rw [show (r.1 == k) = false from beq_false_of_ne (Ne.symm this), Bool.or_false]
    · have hne := h1 _ hm
      rw [show (q.1 == k) = false from beq_false_of_ne hne.1, Bool.or_false]
      split
      · exact fillE_done hp EL a h2 hm
      · rw [← fillE_done hp EL (a.put q.2.1 q.2.2) h2 hm]
        congr 1
        exact (Act.put_comm a q.2.2 v (fun t ht => hne.2 t ht)).symm
theorem fillE_exec {p : Nat → Bool} {o : Oper} (hsel : ∀ cs b, o.op ≠ .select cs b) : ∀ (EL : List (Nat × Option Tmp × Value)) (a : Act), (∀ q ∈ EL, p q.1 = false → ∀ t, q.2.1 = some t → t ∉ o.looksAt ops) → execOp (fillE p EL a).eval o = execOp a.eval o
  | [], a, _ => rfl
  | q :: EL, a, h => by
    have e : fillE p (q :: EL) a = fillE p EL (if p q.1 = true then a else a.put q.2.1 q.2.2) := rfl
    rw [e, fillE_exec hsel EL _ (fun q' hq => h q' (List.mem_cons_of_mem _ hq))]
    split
    · rfl
    · rename_i hn
      exact execOp_put o hsel a q.2.1 q.2.2 (fun t ht => h q List.mem_cons_self (by simpa using hn) t ht)
theorem putE_exec {o : Oper} (hsel : ∀ cs b, o.op ≠ .select cs b) : ∀ (EL : List (Nat × Option Tmp × Value)) (a : Act), (∀ q ∈ EL, ∀ t, q.2.1 = some t → t ∉ o.looksAt ops) → execOp (putE EL a).eval o = execOp a.eval o
  | [], a, _ => rfl
  | q :: EL, a, h => (putE_exec hsel EL _ (fun q' hq => h q' (List.mem_cons_of_mem _ hq))).trans (execOp_put o hsel a q.2.1 q.2.2 (fun t ht => h q List.mem_cons_self t ht))
/-- What the floating walk shows. -/
theorem lexE_list {J : World → Prop} {K : Act → Prop} {c : Nat → Bool} (hsel : ∀ (j : Nat) (o : Oper) cs b, ops[j]? = some o → o.op ≠ .select cs b)
    (hlook : ∀ (j j' : Nat) (o o' : Oper), ops[j]? = some o → ops[j']? = some o' → c j = false → c j' = false → j ≤ j' → ∀ t, o'.dst = some t → t ∉ o.looksAt ops) :
    ∀ (l : List Oper) (m : List Bool) (k : Nat) (a : Act), m.length = l.length → (∀ j, j < m.length → m.getD j false = c (k + j)) → (∀ j o, l[j]? = some o → ops[k + j]? = some o) → LexE P J K m l a →
      ∃ EL : List (Nat × Option Tmp × Value), K (putE EL a) ∧ (∀ q ∈ EL, k ≤ q.1 ∧ q.1 < k + l.length ∧ c q.1 = false ∧ ∃ o, ops[q.1]? = some o ∧ o.dst = q.2.1) ∧ EL.Pairwise (fun q r => q.1 < r.1) ∧
        ∀ j o, l[j]? = some o → c (k + j) = false → ∃ v, (k + j, o.dst, v) ∈ EL ∧ ∀ W, J W → UponE P v W ((execOp (putE EL a).eval o).run P W)
  | [], [], k, a, _, _, _, h => ⟨[], h, by simp, List.Pairwise.nil, by simp⟩
  | [], b :: m, k, a, hm, _, _, h => by simp at hm
  | o :: l, [], k, a, hm, _, _, h => by simp at hm
  | o :: l, b :: m, k, a, hm, hc, hl, h => by
    have h0 : ops[k]? = some o := by simpa using hl 0 o rfl
    have hb : b = c k := by simpa using hc 0 (by simp)
    have hm' : m.length = l.length := by simpa using hm
    have hc' : ∀ j, j < m.length → m.getD j false = c (k + 1 + j) := fun j hj => by
      have := hc (j + 1) (by simpa using hj)
      rw [show k + (j + 1) = k + 1 + j by omega] at this
      simpa using this
    have hl' : ∀ j o', l[j]? = some o' → ops[k + 1 + j]? = some o' := fun j o' hj => by have := hl (j + 1) o' (by simpa using hj); rwa [show k + (j + 1) = k + 1 + j by omega] at this
    cases hbk : b with
    | true =>
      rw [hbk] at h
      obtain ⟨EL, h1, h2, h3, h4⟩ := lexE_list hsel hlook l m (k + 1) a hm' hc' hl' h
      refine ⟨EL, h1, fun q hq => ?_, h3, fun j o' hj hC => ?_⟩
      · obtain ⟨a1, a2, a3⟩ := h2 q hq
        exact ⟨by omega, by rw [List.length_cons]; omega, a3⟩
      · cases j with
        | zero => rw [Nat.add_zero, ← hb, hbk] at hC; cases hC
        | succ j =>
          have := h4 j o' (by simpa using hj) (by rwa [show k + 1 + j = k + (j + 1) by omega])
          rwa [show k + 1 + j = k + (j + 1) by omega] at this
    | false =>
      have hck : c k = false := by rw [← hb, hbk]
      rw [hbk] at h
      obtain ⟨v, hv, h⟩ := h
      obtain ⟨EL, h1, h2, h3, h4⟩ := lexE_list hsel hlook l m (k + 1) (a.put o.dst v) hm' hc' hl' h
      refine ⟨(k, o.dst, v) :: EL, h1, fun q hq => ?_, ?_, fun j o' hj hC => ?_⟩
      · rcases List.mem_cons.1 hq with rfl | hq
        · exact ⟨Nat.le_refl _, by rw [List.length_cons]; show k < _; omega, hck, o, h0, rfl⟩
        · obtain ⟨a1, a2, a3⟩ := h2 q hq
          exact ⟨by omega, by rw [List.length_cons]; omega, a3⟩
      · exact List.pairwise_cons.2 ⟨fun q hq => by have := (h2 q hq).1; show k < q.1; omega, h3⟩
      · cases j with
        | zero =>
          have ho : o = o' := by simpa using hj
          subst ho
          refine ⟨v, List.mem_cons_self, fun W hW => ?_⟩
          have e : execOp (putE ((k, o.dst, v) :: EL) a).eval o = execOp a.eval o := putE_exec (ops := ops) (fun cs b => hsel k o cs b h0) _ a (fun q hq t ht => by
            rcases List.mem_cons.1 hq with rfl | hq
            · exact hlook k k o o h0 h0 hck hck (Nat.le_refl _) t ht
            · obtain ⟨a1, _, a3, o2, ho2, hd2⟩ := h2 q hq
              exact hlook k q.1 o o2 h0 ho2 hck a3 (by omega) t (hd2.trans ht))
          rw [e]
          exact hv W hW
        | succ j =>
          obtain ⟨v', hm, hv'⟩ := h4 j o' (by simpa using hj) (by rwa [show k + 1 + j = k + (j + 1) by omega])
          rw [show k + 1 + j = k + (j + 1) by omega] at hm
          exact ⟨v', List.mem_cons_of_mem _ hm, hv'⟩
theorem chainOf_at : ∀ (m : List Bool) (l : List Oper) (b i t : Nat) (o : Oper), t ≤ i → l[i]? = some o → m.getD i false = true → (∀ j, t ≤ j → j < i → m.getD j false = false) → m.length = l.length → chainOf (b + t) (m.drop t) (l.drop t) = (b + i, o) :: chainOf (b + i + 1) (m.drop (i + 1)) (l.drop (i + 1))
  | [], l, b, i, t, o, _, _, hi, _, _ => by simp at hi
  | c :: m, [], b, i, t, o, _, hi, _, _, _ => by simp at hi
  | c :: m, x :: l, b, 0, t, o, ht, hi, hm, _, _ => by
    have : t = 0 := by omega
    subst this
    have hb : c = true := by simpa using hm
    have hx : x = o := by simpa using hi
    subst hb; subst hx
    rfl
  | c :: m, x :: l, b, i + 1, 0, o, _, hi, hm, hn, hl => by
    have hb : c = false := by simpa using hn 0 (Nat.le_refl _) (by omega)
    subst hb
    have := chainOf_at m l (b + 1) i 0 o (Nat.zero_le _) (by simpa using hi) (by simpa using hm) (fun j _ hj => by simpa using hn (j + 1) (by omega) (by omega)) (by simpa using hl)
    rw [show b + 1 + i = b + (i + 1) by omega] at this
    simpa [chainOf] using this
  | c :: m, x :: l, b, i + 1, t + 1, o, ht, hi, hm, hn, hl => by
    have := chainOf_at m l (b + 1) i t o (by omega) (by simpa using hi) (by simpa using hm) (fun j h1 h2 => by simpa using hn (j + 1) (by omega) (by omega)) (by simpa using hl)
    rw [show b + 1 + i = b + (i + 1) by omega, show b + 1 + t = b + (t + 1) by omega] at this
    simpa using this
/-- The next of the chain. -/
theorem chainOf_next (m : List Bool) (l : List Oper) (hl : m.length = l.length) (t : Nat) : ∀ (d i : Nat), i = t + d → m.getD i false = true → ∃ k o, t ≤ k ∧ k ≤ i ∧ l[k]? = some o ∧ m.getD k false = true ∧ chainOf t (m.drop t) (l.drop t) = (k, o) :: chainOf (k + 1) (m.drop (k + 1)) (l.drop (k + 1)) := by
  intro d
  induction d using Nat.strongRecOn with
  | _ d ih =>
    intro i hi hm
    by_cases h : ∃ j, t ≤ j ∧ j < i ∧ m.getD j false = true
    · obtain ⟨j, h1, h2, h3⟩ := h
      obtain ⟨k, o, a1, a2, a3⟩ := ih (j - t) (by omega) j (by omega) h3
      exact ⟨k, o, a1, by omega, a3⟩
    · have hlt : i < l.length := by
        rw [← hl]
        apply Nat.lt_of_not_le
        intro hh
        simp [List.getD_eq_getElem?_getD, List.getElem?_eq_none hh] at hm
      refine ⟨i, l[i], by omega, Nat.le_refl _, List.getElem?_eq_getElem hlt, hm, ?_⟩
      have := chainOf_at m l 0 i t _ (by omega) (List.getElem?_eq_getElem hlt) hm (fun j h1 h2 => by
        cases hj : m.getD j false with
        | false => rfl
        | true => exact absurd ⟨j, h1, h2, hj⟩ h) hl
      simpa using this
theorem chainOf_end (m : List Bool) (l : List Oper) (t : Nat) (h : m.length ≤ t) : chainOf t (m.drop t) (l.drop t) = [] := by
  rw [List.drop_eq_nil_of_le h]
  cases l.drop t <;> rfl
/-- The region's form: no guards, edges lead back; all slots apart; a floating operation looks at no chain's slot and at floating slots only that it waits for, and so does the chain; all floating ones lead on; the chain is one, and the last. -/
def floB (l : List Oper) (m : List Bool) (M : Nat) : Bool :=
  Region.noSelect l.toArray && l.all (fun o => o.guard.isNone) && backB .any l.toArray
  && ((List.range l.length).all fun i => (List.range l.length).all fun j => i == j || (match (l[i]?).bind (·.dst) with | some d => (l[j]?).bind (·.dst) != some d | none => true))
  && ((List.range l.length).all fun i => match l[i]? with
      | some o => (List.range l.length).all fun j => (match (l[j]?).bind (·.dst) with
        | some d => !(o.looksAt l.toArray).contains d || (if m.getD j false then m.getD i false else waits .any l.toArray j i)
        | none => true)
      | none => true)
  && ((List.range l.length).all fun i => m.getD i false || (List.range l.length).any fun j => decide (i < j) && decide (j ≤ M) && waits .any l.toArray i j)
  && ((List.range l.length).all fun i => !m.getD i false || (List.range i).all fun j => !m.getD j false || (List.range i).any fun k => decide (j ≤ k) && m.getD k false && waits .any l.toArray k i)
  && decide (m.length = l.length) && decide (0 < l.length) && m.getD (l.length - 1) false && m.getD M false
/-- What holds on the way. -/
def Inv (P : Program) (J : World → Prop) (M : Nat) (K : Act → World → Prop) (l : List Oper) (m : List Bool) (EL : List (Nat × Option Tmp × Value)) (a : Act) (p : Nat → Bool) (A : Act) (W : World) : Prop :=
  (∀ i o, l[i]? = some o → p i = true → ∀ e ∈ o.after, Region.binds .any e = true → p e.on = true) ∧
  (∀ i o, l[i]? = some o → m.getD i false = false → execOp (fillE p EL A).eval o = execOp (putE EL a).eval o) ∧
  ∃ t, (∀ i, i < l.length → m.getD i false = true → p i = decide (i < t)) ∧ Chain P J M K (chainOf t (m.drop t) (l.drop t)) (fillE p EL A) W
theorem wp_region_floatM {id : Nat} {Q : Exit → Act → World → Prop} {a : Act} {w : World} {l : List Oper} (m : List Bool) (M : Nat) (J : World → Prop) (hm : P.follows .mixedOrders = true) (hB : floB l m M = true)
    (h : LexE P J (fun aE => Chain P J M (Q .normal) (chainOf 0 m l) aE { w with drawn := w.drawn + 1 }) m l a) : (Code.region id l.toArray true).wp P Q a w := by
  unfold floB at hB
  simp only [Bool.and_eq_true, decide_eq_true_eq] at hB
  obtain ⟨⟨⟨⟨⟨⟨⟨⟨⟨⟨b1, b2⟩, b3⟩, b4⟩, b5⟩, b6⟩, b7⟩, b8⟩, b9⟩, b10⟩, b11⟩ := hB
  have hat : ∀ (i : Nat) (o : Oper), l[i]? = some o → l.toArray[i]? = some o := fun i o h => List.getElem?_toArray.trans h
  have hlt : ∀ {i : Nat} {o : Oper}, l[i]? = some o → i < l.length := fun h => (List.getElem?_eq_some_iff.1 h).1
  have hsel : ∀ (j : Nat) (o : Oper) cs b, l.toArray[j]? = some o → o.op ≠ .select cs b := fun j o cs b h => Region.noSelect_spec b1 j o cs b h
  have hslot : ∀ (i j : Nat) (o o' : Oper) (d : Tmp), l[i]? = some o → l[j]? = some o' → i ≠ j → o.dst = some d → o'.dst ≠ some d := fun i j o o' d hi hj hne hd => by
    have h1 := List.all_eq_true.1 (List.all_eq_true.1 b4 i (List.mem_range.2 (hlt hi))) j (List.mem_range.2 (hlt hj))
    rw [hi, hj] at h1
    simp only [Option.bind_some, hd, Bool.or_eq_true, beq_iff_eq, bne_iff_ne] at h1
    exact h1.resolve_left hne
  have hlook : ∀ (i j : Nat) (o o' : Oper) (d : Tmp), l[i]? = some o → l[j]? = some o' → o'.dst = some d → d ∈ o.looksAt l.toArray → (m.getD j false = true → m.getD i false = true) ∧ (m.getD j false = false → waits .any l.toArray j i = true) := fun i j o o' d hi hj hd hin => by
    have h1 := List.all_eq_true.1 b5 i (List.mem_range.2 (hlt hi))
    rw [hi] at h1
    have h2 := List.all_eq_true.1 h1 j (List.mem_range.2 (hlt hj))
    rw [hj] at h2
    simp only [Option.bind_some, hd, Bool.or_eq_true, Bool.not_eq_true', List.contains_eq_mem, decide_eq_false_iff_not] at h2
    have h3 := h2.resolve_left (fun h => h hin)
    constructor
    · intro hj; rw [hj] at h3; exact h3
    · intro hj; rw [hj] at h3; exact h3
  have hwait : ∀ (i j : Nat) (p : Nat → Bool) (o : Oper), l[j]? = some o → (∀ e ∈ o.after, Region.binds .any e = true → p e.on = true) → waits .any l.toArray i j = true → p i = true := fun i j p o ho hp hw => by
    obtain ⟨o', ho', e, he, hon, hb⟩ := waits_spec hw
    have : o = o' := by have := hat j o ho; rw [this] at ho'; injection ho'
    subst this
    rw [← hon]; exact hp e he hb
  have hback : ∀ (i j : Nat), waits .any l.toArray i j = true → i < j := fun i j hw => by
    obtain ⟨o', ho', e, he, hon, hb⟩ := waits_spec hw
    rw [← hon]; exact backB_spec b3 ho' he hb
  obtain ⟨EL, h1, h2, h3, h4⟩ := lexE_list (ops := l.toArray) (c := fun i => m.getD i false) hsel (fun j j' o o' hj hj' hc hc' hle t ht hin => by
    have hj1 : l[j]? = some o := by simpa using hj
    have hj1' : l[j']? = some o' := by simpa using hj'
    have := hback _ _ ((hlook j j' o o' t hj1 hj1' ht hin).2 hc')
    omega) l m 0 a b8 (fun j hj => by simp) (fun j o hj => by simpa using hj) h
  have hELw : EL.Pairwise (fun q r => q.1 ≠ r.1 ∧ ∀ t, q.2.1 = some t → r.2.1 ≠ some t) := by
    rw [List.pairwise_iff_forall_sublist] at h3 ⊢
    intro q r hqr
    have hne := h3 hqr
    have hq := h2 q (hqr.subset (by simp))
    have hr := h2 r (hqr.subset (by simp))
    obtain ⟨_, _, _, oq, hoq, hdq⟩ := hq
    obtain ⟨_, _, _, orr, hor, hdr⟩ := hr
    refine ⟨by omega, fun t ht => ?_⟩
    rw [← hdr]
    exact hslot q.1 r.1 oq orr t (by simpa using hoq) (by simpa using hor) (by omega) (hdq.trans ht)
  -- a chain's slot is no floating one
  have hnoslot : ∀ (i : Nat) (o : Oper), l[i]? = some o → m.getD i false = true → ∀ q ∈ EL, ∀ t, q.2.1 = some t → o.dst ≠ some t := fun i o ho hi q hq t ht hd => by
    obtain ⟨_, _, hc, oq, hoq, hdq⟩ := h2 q hq
    have hne : i ≠ q.1 := fun e => by rw [← e] at hc; rw [hi] at hc; cases hc
    exact hslot i q.1 o oq t ho (by simpa using hoq) hne hd (hdq.trans ht)
  have last : ∀ p : Nat → Bool, (∀ i o, l[i]? = some o → p i = true → ∀ e ∈ o.after, Region.binds .any e = true → p e.on = true) → ∀ t, (∀ i, i < l.length → m.getD i false = true → p i = decide (i < t)) → M < t → ∀ d i, l.length - i = d → i < l.length → (m.getD i false = false ∨ i ≤ M) → p i = true := by
    intro p hcl t ht hlast d
    induction d using Nat.strongRecOn with
    | _ d ih =>
      intro i hd hi hor
      cases hc : m.getD i false with
      | true =>
        have hiM : i ≤ M := hor.resolve_left (by rw [hc]; decide)
        rw [ht i hi hc]; exact decide_eq_true (by omega)
      | false =>
        have h5 := List.all_eq_true.1 b6 i (List.mem_range.2 hi)
        rw [hc, Bool.false_or] at h5
        obtain ⟨j, hj, h6⟩ := List.any_eq_true.1 h5
        rw [Bool.and_eq_true, Bool.and_eq_true, decide_eq_true_eq, decide_eq_true_eq] at h6
        have hjl := List.mem_range.1 hj
        have hpj := ih (l.length - j) (by omega) j rfl hjl (.inr h6.1.2)
        exact hwait i j p l[j] (List.getElem?_eq_getElem hjl) (hcl j _ (List.getElem?_eq_getElem hjl) hpj) h6.2
  refine wp_region_any hm (any_inv (I := Inv P J M (Q .normal) l m EL a) (by simpa using b2) b3 ?_ ?_ _ _ _ _ (by simp) (by simp) ?_)
  · have step : ∀ i o, l[i]? = some o → Go.Proofs.YtbccaabaplbmhaaGreatDoor.Grow.Step P l.toArray .any (Inv P J M (Q .normal) l m EL a) Q i o := by
      intro i o ho p A W hp hpi hI
      obtain ⟨hcl, hex, t, ht, hch⟩ := hI
      have hil := hlt ho
      -- what o looks at is there
      have hundone : ∀ q ∈ EL, p q.1 = false → ∀ s, q.2.1 = some s → s ∉ o.looksAt l.toArray := fun q hq hpq s hs hin => by
        obtain ⟨_, _, hc, oq, hoq, hdq⟩ := h2 q hq
        have := hwait q.1 i p o ho hp ((hlook i q.1 o oq s ho (by simpa using hoq) (hdq.trans hs) hin).2 hc)
        rw [hpq] at this; cases this
      have e1 : execOp (fillE p EL A).eval o = execOp A.eval o := fillE_exec (ops := l.toArray) (fun cs b => hsel i o cs b (hat i o ho)) EL A hundone
      have hcl' : ∀ k o', l[k]? = some o' → (p k || k == i) = true → ∀ e ∈ o'.after, Region.binds .any e = true → (p e.on || e.on == i) = true := fun k o' hk hpk e he hb => by
        rw [Bool.or_eq_true] at hpk ⊢
        rcases hpk with hpk | hpk
        · exact .inl (hcl k o' hk hpk e he hb)
        · have : k = i := by simpa using hpk
          subst this
          rw [ho] at hk; injection hk with hk; subst hk
          exact .inl (hp e he hb)
      cases hc : m.getD i false with
      | false =>
        obtain ⟨v, hv, hu⟩ := h4 i o ho (by rw [Nat.zero_add]; exact hc)
        rw [Nat.zero_add] at hv
        have hJ : J W := by
          have hnl : ¬ M < t := fun hh => by
            have := last p hcl t ht hh _ i rfl hil (.inl hc)
            rw [hpi] at this; cases this
          obtain ⟨k, o', _, hkM, _, _, e⟩ := chainOf_next m l b8 t (M - t) M (by omega) b11
          rw [e] at hch
          exact hch.1 hkM
        have e2 := hex i o ho hc
        refine wp_of_uponE (v := v) (by rw [← e1, e2]; exact hu W hJ) ?_
        have e3 : fillE (fun j => p j || j == i) EL (A.put o.dst v) = fillE p EL A := fillE_done hpi EL A hELw hv
        refine ⟨hcl', fun k o' hk hck => by rw [e3]; exact hex k o' hk hck, t, fun k hk hck => ?_, by rw [e3]; exact hch⟩
        have hne : k ≠ i := fun e => by rw [e, hc] at hck; cases hck
        show (p k || k == i) = _
        rw [show (k == i) = false from beq_false_of_ne hne, Bool.or_false]
        exact ht k hk hck
      | true =>
        have hti : t ≤ i := by
          have := ht i hil hc
          rw [hpi] at this
          have := of_decide_eq_false this.symm
          omega
        have hno : ∀ j, t ≤ j → j < i → m.getD j false = false := fun j hj1 hj2 => by
          cases hj : m.getD j false with
          | false => rfl
          | true =>
            have h5 := List.all_eq_true.1 b7 i (List.mem_range.2 hil)
            rw [hc, Bool.not_true, Bool.false_or] at h5
            have h6 := List.all_eq_true.1 h5 j (List.mem_range.2 hj2)
            rw [hj, Bool.not_true, Bool.false_or] at h6
            obtain ⟨k, hk, h7⟩ := List.any_eq_true.1 h6
            simp only [Bool.and_eq_true, decide_eq_true_eq] at h7
            have hki := List.mem_range.1 hk
            have hpk := hwait k i p o ho hp h7.2
            rw [ht k (by omega) h7.1.2] at hpk
            have := of_decide_eq_true hpk
            omega
        have hch2 := chainOf_at m l 0 i t o hti ho hc hno b8
        simp only [Nat.zero_add] at hch2
        rw [hch2] at hch
        obtain ⟨_, hch⟩ := hch
        refine wp_of_uponC ?_
        rw [← e1]
        refine hch.mono fun v W' hK => ?_
        have e3 : fillE (fun j => p j || j == i) EL (A.put o.dst v) = (fillE p EL A).put o.dst v := by
          rw [fillE_put EL A (hnoslot i o ho hc)]
          rw [fillE_same (p' := p) EL A fun q hq => by
            obtain ⟨_, _, hcq, _⟩ := h2 q hq
            have hne : q.1 ≠ i := fun e => by rw [e, hc] at hcq; cases hcq
            show (p q.1 || q.1 == i) = p q.1
            rw [show (q.1 == i) = false from beq_false_of_ne hne, Bool.or_false]]
        refine ⟨hcl', fun k o' hk hck => ?_, i + 1, fun k hk hck => ?_, by rw [e3]; exact hK⟩
        · rw [e3, execOp_put (ops := l.toArray) o' (fun cs b => hsel k o' cs b (hat k o' hk)) _ o.dst v (fun d hd hin => by
            have := (hlook k i o' o d hk ho hd hin).1 hc
            rw [hck] at this; cases this)]
          exact hex k o' hk hck
        · show (p k || k == i) = _
          by_cases hki : k = i
          · subst hki; simp
          · rw [show (k == i) = false from beq_false_of_ne hki, Bool.or_false, ht k hk hck]
            by_cases hkt : k < t
            · rw [decide_eq_true hkt, decide_eq_true (by omega)]
            · have : ¬ k < i := fun hh => by rw [hno k (by omega) hh] at hck; cases hck
              rw [decide_eq_false hkt, decide_eq_false (by omega)]
    have all : ∀ (r : List Oper) (k : Nat), (∀ j o, r[j]? = some o → l[k + j]? = some o) → Go.Proofs.YtbccaabaplbmhaaGreatDoor.Grow.Steps P l.toArray .any (Inv P J M (Q .normal) l m EL a) Q k r := by
      intro r
      induction r with
      | nil => intro k _; trivial
      | cons o r ih =>
        intro k hr
        exact ⟨step k o (by simpa using hr 0 o rfl), ih (k + 1) fun j o' hj => by have := hr (j + 1) o' (by simpa using hj); rwa [show k + (j + 1) = k + 1 + j by omega] at this⟩
    exact all _ 0 fun j o hj => by simpa using hj
  · intro p A W hp hI
    obtain ⟨_, _, t, ht, hch⟩ := hI
    have hp' : ∀ i, i < l.length → p i = true := fun i hi => hp i (by simpa using hi)
    have : l.length - 1 < t := by
      have h5 := ht (l.length - 1) (by omega) b10
      rw [hp' _ (by omega)] at h5
      exact of_decide_eq_true h5.symm
    rw [chainOf_end m l t (by omega), fillE_all EL A fun q hq => hp' q.1 (by have := (h2 q hq).2.1; omega)] at hch
    exact hch
  · have e : (fun j => (Array.replicate l.toArray.size false).getD j false) = fun _ => false := by funext j; exact getD_replicate_false _ _
    rw [e]
    have e2 : fillE (fun _ => false) EL a = putE EL a := fillE_none EL a fun _ _ => rfl
    have i1 : ∀ (i : Nat) (o : Oper), l[i]? = some o → false = true → ∀ e ∈ o.after, Region.binds .any e = true → false = true := fun i o _ hi => absurd hi (by decide)
    have i2 : ∀ (i : Nat) (o : Oper), l[i]? = some o → m.getD i false = false → execOp (fillE (fun _ => false) EL a).eval o = execOp (putE EL a).eval o := fun i o _ _ => by rw [e2]
    have i3 : ∀ i, i < l.length → m.getD i false = true → false = decide (i < 0) := fun i _ _ => by simp
    have i4 : Chain P J M (Q .normal) (chainOf 0 (m.drop 0) (l.drop 0)) (fillE (fun _ => false) EL a) { w with drawn := w.drawn + 1 } := by rw [e2, List.drop_zero, List.drop_zero]; exact h1
    exact ⟨i1, i2, 0, i3, i4⟩
section
variable {J : World → Prop} {K : Act → Prop} {m : List Bool} {r : List Oper} {o : Oper} {a : Act}
theorem lexE_nil (h : K a) : LexE P J K [] [] a := h
theorem lexE_do (v : Value) (hr : ∀ W, J W → UponE P v W ((execOp a.eval o).run P W)) (h : LexE P J K m r (a.put o.dst v)) : LexE P J K (false :: m) (o :: r) a := ⟨v, hr, h⟩
theorem lexE_pass (h : LexE P J K m r a) : LexE P J K (true :: m) (o :: r) a := h
theorem lexE_norm (h : ∀ L : Act → Prop, (∀ a', LexE P J K m r a' → L a') → L a) : LexE P J K m r a := h _ fun _ h => h
end
theorem wp_region_float {id : Nat} {Q : Exit → Act → World → Prop} {a : Act} {w : World} {l : List Oper} (m : List Bool) (J : World → Prop) (hm : P.follows .mixedOrders = true) (hB : floB l m (l.length - 1) = true)
    (h : LexE P J (fun aE => Chain P J (l.length - 1) (Q .normal) (chainOf 0 m l) aE { w with drawn := w.drawn + 1 }) m l a) : (Code.region id l.toArray true).wp P Q a w := wp_region_floatM m (l.length - 1) J hm hB h
section
variable {J : World → Prop} {K : Act → World → Prop} {M i : Nat} {r : List (Nat × Oper)} {o : Oper} {a : Act} {W : World}
theorem chain_nil (h : K a W) : Chain P J M K [] a W := h
theorem chain_do (hJ : J W) (h : UponC P (fun v W' => Chain P J M K r (a.put o.dst v) W') ((execOp a.eval o).run P W)) : Chain P J M K ((i, o) :: r) a W := ⟨fun _ => hJ, h⟩
theorem chain_free (hM : M < i) (h : UponC P (fun v W' => Chain P J M K r (a.put o.dst v) W') ((execOp a.eval o).run P W)) : Chain P J M K ((i, o) :: r) a W := ⟨fun h => absurd h (Nat.not_le.2 hM), h⟩
theorem chain_norm (h : ∀ L : Act → World → Prop, (∀ a' W', Chain P J M K r a' W' → L a' W') → L a W) : Chain P J M K r a W := h _ fun _ _ h => h
end
end
end Go.Proofs.YtbccaabaplbmhaaGreatDoor.Flo
