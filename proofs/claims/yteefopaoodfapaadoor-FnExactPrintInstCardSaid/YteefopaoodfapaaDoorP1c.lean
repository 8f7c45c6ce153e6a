/- Rows of rows of bytes; the fields of a place, as the reference tells them. -/
import Derived.Test.YteefopaoodfapaaDoorP1b
import Derived.Test.YteefopaoodfapaaDoorG7
namespace Go.Proofs.YteefopaoodfapaaDoor.L1
open Go.RowKit Go.Proofs.YteefopaoodfapaaDoorW.PrintWords Go.Proofs.YteefopaoodfapaaDoor.B
set_option linter.unusedVariables false
set_option linter.unusedSimpArgs false
attribute [local go_sem] mk_cell mk_frozen
/-- Slices, as a flat kind of one cell. -/
structure Sl where (A : Option Addr) (n c : Nat)
def kSl : Kd Sl := Kd.flat 1 (fun p => [.slice p.A p.n p.c]) (fun _ => rfl) (by intro x u hu; simp at hu; rcases hu with rfl; rfl)
def zSl : Sl := ⟨none, 0, 0⟩
/-- What the slices read. -/
def Flds (W : World) : List Sl → List (List Int) → Prop
  | [], [] => True
  | p :: ps, f :: fs => (p.n = f.length ∧ kByte.C W p.A f.length f ∧ Ty W p.A) ∧ Flds W ps fs
  | _, _ => False
theorem Flds.nil (W : World) : Flds W [] [] := trivial
theorem Flds.cons {W : World} {p : Sl} {f : List Int} {ps : List Sl} {fs : List (List Int)} (hn : p.n = f.length) (hc : kByte.C W p.A f.length f ∧ Ty W p.A) (h : Flds W ps fs) : Flds W (p :: ps) (f :: fs) := ⟨⟨hn, hc⟩, h⟩
theorem Flds.below {W W' : World} (hb : Below W.heap.size W W') : ∀ {ps : List Sl} {fs : List (List Int)}, Flds W ps fs → Flds W' ps fs
  | [], [], _ => trivial
  | p :: ps, f :: fs, h => ⟨⟨h.1.1, Kd.C_below h.1.2.1 hb, h.1.2.2.below hb⟩, Flds.below hb h.2⟩
theorem Flds.append {W : World} : ∀ {ps : List Sl} {fs : List (List Int)} {qs : List Sl} {gs : List (List Int)}, Flds W ps fs → Flds W qs gs → Flds W (ps ++ qs) (fs ++ gs)
  | [], [], _, _, _, h => h
  | p :: ps, f :: fs, qs, gs, h, h2 => ⟨h.1, Flds.append h.2 h2⟩
theorem Flds.len {W : World} : ∀ {ps : List Sl} {fs : List (List Int)}, Flds W ps fs → ps.length = fs.length
  | [], [], _ => rfl
  | p :: ps, f :: fs, h => by rw [List.length_cons, List.length_cons, Flds.len h.2]
theorem Flds.at {W : World} : ∀ {ps : List Sl} {fs : List (List Int)}, Flds W ps fs → ∀ j, j < fs.length → (ps.getD j zSl).n = (fs.getD j []).length ∧ kByte.C W (ps.getD j zSl).A (fs.getD j []).length (fs.getD j [])
  | [], [], _, _, hj => absurd hj (Nat.not_lt_zero _)
  | p :: ps, f :: fs, h, 0, _ => ⟨h.1.1, h.1.2.1⟩
  | p :: ps, f :: fs, h, j + 1, hj => Flds.at h.2 j (by rw [List.length_cons] at hj; omega)
theorem Flds.read {W : World} {ps : List Sl} {fs : List (List Int)} (h : Flds W ps fs) {B n : Nat} (hC : kSl.C W (some ⟨B, 0, none⟩) n ps) : ReadFlds W B fs := by
  intro j hj
  obtain ⟨h1, h2⟩ := h.at j hj
  have hn : ps.length = n := hC.1
  obtain ⟨ad, e0, t0, _⟩ := Kd.flat_cells (d := kSl) rfl hC zSl j (by rw [← hn, h.len]; exact hj)
  cases e0
  have := t0 _ rfl
  rw [Nat.mul_one, Addr.add_lit, Nat.zero_add] at this
  exact ⟨_, _, by rw [this, h1], h2⟩
theorem blk_lt' {W : World} {b : Nat} {o : Obj} (h : W.heap[b]? = some o) : b < W.heap.size := (Array.getElem?_eq_some_iff.1 h).1
theorem C_cells {W W' : World} (hk : ∀ a v, W.cell? a = some v → W'.cell? a = some v) {A : Option Addr} {n : Nat} {xs : List Int} (h : kByte.C W A n xs) : kByte.C W' A n xs :=
  ⟨h.1, h.2.1, fun hp => by
    obtain ⟨ad, e, hc⟩ := h.2.2 hp
    refine ⟨ad, e, fun j p hj => ?_⟩
    obtain ⟨cs, h1, h2, h3⟩ := hc j p hj
    exact ⟨cs, h1, h2, fun i u hu => hk _ _ (h3 i u hu)⟩⟩
theorem add_block (a : Addr) (n : Nat) : (a.add n).block = a.block := by unfold Addr.add; split <;> rfl
theorem C_grown {W W' : World} {row : Option Nat} (hg : W.grownBy W' row) {A : Option Addr} {n : Nat} {xs : List Int} (h : kByte.C W A n xs) (hne : ∀ ad, A = some ad → some ad.block ≠ row) : kByte.C W' A n xs :=
  ⟨h.1, h.2.1, fun hp => by
    obtain ⟨ad, e, hc⟩ := h.2.2 hp
    refine ⟨ad, e, fun j p hj => ?_⟩
    obtain ⟨cs, h1, h2, h3⟩ := hc j p hj
    exact ⟨cs, h1, h2, fun i u hu => World.grownBy.cell hg (h3 i u hu) (by rw [add_block]; exact hne ad e)⟩⟩
theorem Flds.grown {W W' : World} {base : Nat} {ok : Nat → Prop} {v : Value} {xs : List Sl} (hr : kSl.R 28 W base ok v xs) (hg : W.grownBy W' v.ownBlock) : ∀ {ps : List Sl} {fs : List (List Int)}, Flds W ps fs → Flds W' ps fs
  | [], [], _ => trivial
  | p :: ps, f :: fs, h => by
    have hne : ∀ ad : Addr, p.A = some ad → some ad.block ≠ v.ownBlock := fun ad e he => by
      obtain ⟨cs, fr, h1⟩ := h.1.2.2 ad e
      obtain ⟨inner, ho⟩ := Kd.R_own hr
      obtain ⟨cells, hc⟩ := own_typed ho ad.block he.symm
      rw [h1] at hc
      cases hc
    refine ⟨⟨h.1.1, C_grown hg h.1.2.1 hne, fun ad e => ?_⟩, Flds.grown hr hg h.2⟩
    obtain ⟨cs, fr, h1⟩ := h.1.2.2 ad e
    exact ⟨cs, fr, (hg.block _ (blk_lt' h1) (hne ad e)).trans h1⟩
def BytesP (xs : List Int) (v : Value) (lo : Nat) (W : World) : Prop := ByteRow W v xs
theorem BytesP.stays (w0 : World) (xs : List Int) : GrowK.Stays w0 (BytesP xs) := fun v lo W W' hb h => by
  obtain ⟨A, c, e, h, ht⟩ := h
  exact ⟨A, c, e, C_cells hb.2.1 h, fun ad e => by
    obtain ⟨cs, fr, h1⟩ := ht ad e
    obtain ⟨fr', h2⟩ := hb.2.2 _ _ _ _ h1
    exact ⟨cs, fr', h2⟩⟩
theorem BytesP.of {base : Nat} {ok : Nat → Prop} {W : World} {v : Value} {xs : List Int} {lo : Nat} (h : kByte.R 5 W base ok v xs) : BytesP xs v lo W := ByteRow.of h
/-- A constant's row, ahead of the turn to bytes. -/
def LitP (base : Nat) (xs : List Int) (v : Value) (lo : Nat) (W : World) : Prop := base ≤ lo ∧ ∃ fr, v = .slice (some ⟨lo, 0, none⟩) xs.length xs.length ∧ W.heap[lo]? = some (.cells (xs.map (Value.int .u8)).toArray 5 fr)
theorem LitP.stays (w0 : World) (base : Nat) (xs : List Int) : GrowK.Stays w0 (LitP base xs) := fun v lo W W' hb h => by
  obtain ⟨h0, fr, e, h⟩ := h
  obtain ⟨fr', h'⟩ := hb.2.2 _ _ _ _ h
  exact ⟨h0, fr', e, h'⟩
theorem lit_C {W : World} {b : Nat} {fr : Nat × Nat} {T : TypeId} {xs : List Int} (hm : xs.length ≤ 9223372036854775807) (h : W.heap[b]? = some (.cells (xs.map (Value.int .u8)).toArray T fr)) : kByte.C W (some ⟨b, 0, none⟩) xs.length xs := by
  refine byteC _ _ _ hm fun j hj => ?_
  rw [Addr.add_lit, Nat.zero_add, Go.Joins.cell_of_block h]
  simp [hj]
theorem sl_max (n : Nat) (h : n ≤ 100) : n ≤ maxLen := by simp only [maxLen]; omega
section
variable (w : World)
set_option maxRecDepth 100000 in
set_option maxHeartbeats 4000000 in
theorem spec_placeFields (y : Place) (hy : y.fit) : Calls Tryd.prog 40 #[.agg #[.int .i64 y.x, .int .i64 y.y, .int .i64 y.o, .int .i64 y.c, .int .i64 y.h]] w fun e w' => ∃ v ps, e = .returned v ∧ kSl.R 28 w' w.heap.size (fun _ => True) v ps ∧ Flds w' ps y.flds ∧ Below w.heap.size w w' := by
  have HF := Aside0.mk hy; clear hy
  have HB0 := Aside0.mk (below_alloc (Below.refl w.heap.size w) (.cells #[.int .i64 y.x, .int .i64 y.y, .int .i64 y.o, .int .i64 y.c, .int .i64 y.h] 51))
  have h := al_new w (.cells #[.int .i64 y.x, .int .i64 y.y, .int .i64 y.o, .int .i64 y.c, .int .i64 y.h] 51)
  have HP0 := Aside0.mk h; clear h
  have HGP := Aside0.mk (show w.heap.size ≤ w.heap.size from Nat.le_add_right _ 0)
  have HZ0 := Aside0.mk (show (w.alloc (.cells #[.int .i64 y.x, .int .i64 y.y, .int .i64 y.o, .int .i64 y.c, .int .i64 y.h] 51)).heap.size = w.heap.size + 1 by simp only [al_size])
  have HSZ0 := Aside0.mk (Nat.le_refl (w.alloc (.cells #[.int .i64 y.x, .int .i64 y.y, .int .i64 y.o, .int .i64 y.c, .int .i64 y.h] 51)).heap.size)
  go_enter Tryd.func40, Tryd.ntmps40
  go_wp2_with fail
  refine GrowK.wp_region_deps 15 ⟨[(2, 5), (5, 8), (8, 11), (11, 14), (14, 17)], fun i zv lo hi W => GrowK.GAt [(2, BytesP (dec y.x)), (5, BytesP (dec y.y)), (8, BytesP (dec y.o)), (11, BytesP (dec y.c)), (14, BytesP (dec y.h))] i zv lo W, fun i zv lo hi W W' hb h => GrowK.GAt.stays (l := [(2, BytesP (dec y.x)), (5, BytesP (dec y.y)), (8, BytesP (dec y.o)), (11, BytesP (dec y.c)), (14, BytesP (dec y.h))]) ⟨BytesP.stays _ _, BytesP.stays _ _, BytesP.stays _ _, BytesP.stays _ _, BytesP.stays _ _, trivial⟩ i zv lo hi W W' hb h⟩ (by kernel_rfl) (show List.Pairwise (fun p q : Nat × Tmp => p.1 ≠ q.1 ∧ p.2 ≠ q.2) [(2, 5), (5, 8), (8, 11), (11, 14), (14, 17)] from by decide) (by kernel_rfl) (by rfl) ?_
  dsimp only [List.take, List.drop]
  refine GrowK.lexD_do _ (by rfl) (by rfl) (by intro W hj; obtain ⟨p1, p2⟩ := lay (Below.refl _ _) (blk_below HP0.out hj.out); go_simp; first | exact GrowK.UponK.val) ?_
  refine GrowK.lexD_norm (fun K hK => ?_); go_simp; refine hK _ ?_; clear hK K
  refine GrowK.lexD_do _ (by rfl) (by rfl) (by intro W hj; obtain ⟨p1, p2⟩ := lay (Below.refl _ _) (blk_below HP0.out hj.out); go_simp; first | exact GrowK.UponK.val) ?_
  refine GrowK.lexD_norm (fun K hK => ?_); go_simp; refine hK _ ?_; clear hK K
  refine GrowK.lexD_make (by rfl) (by rfl) (by intro u lo hi W hj hd; have hlow := hj.out.size; obtain ⟨p1, p2⟩ := lay (Below.refl _ _) (blk_below HP0.out hj.out); dsimp only [Grow.fillM, List.foldl]; go_simp; have cc := spec_dec W y.x (HF.out _ (by simp)); refine GrowK.UponK.made hj ?_; (with_reducible refine Calls.mono cc ?_); rintro e w' ⟨v, rfl, hr, hb⟩; exact ⟨_, rfl, GrowK.GAt.mk (P := BytesP (dec y.x)) (BytesP.of hr) (by intro p hp he; simp only [List.mem_cons, List.not_mem_nil, or_false] at hp; rcases hp with rfl | rfl | rfl | rfl | rfl <;> first | rfl | exact absurd he (by simp)), hb⟩) ?_
  refine GrowK.lexD_norm (fun K hK => ?_); go_simp; refine hK _ ?_; clear hK K
  refine GrowK.lexD_do _ (by rfl) (by rfl) (by intro W hj; obtain ⟨p1, p2⟩ := lay (Below.refl _ _) (blk_below HP0.out hj.out); go_simp; first | exact GrowK.UponK.val) ?_
  refine GrowK.lexD_norm (fun K hK => ?_); go_simp; refine hK _ ?_; clear hK K
  refine GrowK.lexD_do _ (by rfl) (by rfl) (by intro W hj; obtain ⟨p1, p2⟩ := lay (Below.refl _ _) (blk_below HP0.out hj.out); go_simp; first | exact GrowK.UponK.val) ?_
  refine GrowK.lexD_norm (fun K hK => ?_); go_simp; refine hK _ ?_; clear hK K
  refine GrowK.lexD_make (by rfl) (by rfl) (by intro u lo hi W hj hd; have hlow := hj.out.size; obtain ⟨p1, p2⟩ := lay (Below.refl _ _) (blk_below HP0.out hj.out); dsimp only [Grow.fillM, List.foldl]; go_simp; have cc := spec_dec W y.y (HF.out _ (by simp)); refine GrowK.UponK.made hj ?_; (with_reducible refine Calls.mono cc ?_); rintro e w' ⟨v, rfl, hr, hb⟩; exact ⟨_, rfl, GrowK.GAt.mk (P := BytesP (dec y.y)) (BytesP.of hr) (by intro p hp he; simp only [List.mem_cons, List.not_mem_nil, or_false] at hp; rcases hp with rfl | rfl | rfl | rfl | rfl <;> first | rfl | exact absurd he (by simp)), hb⟩) ?_
  refine GrowK.lexD_norm (fun K hK => ?_); go_simp; refine hK _ ?_; clear hK K
  refine GrowK.lexD_do _ (by rfl) (by rfl) (by intro W hj; obtain ⟨p1, p2⟩ := lay (Below.refl _ _) (blk_below HP0.out hj.out); go_simp; first | exact GrowK.UponK.val) ?_
  refine GrowK.lexD_norm (fun K hK => ?_); go_simp; refine hK _ ?_; clear hK K
  refine GrowK.lexD_do _ (by rfl) (by rfl) (by intro W hj; obtain ⟨p1, p2⟩ := lay (Below.refl _ _) (blk_below HP0.out hj.out); go_simp; first | exact GrowK.UponK.val) ?_
  refine GrowK.lexD_norm (fun K hK => ?_); go_simp; refine hK _ ?_; clear hK K
  refine GrowK.lexD_make (by rfl) (by rfl) (by intro u lo hi W hj hd; have hlow := hj.out.size; obtain ⟨p1, p2⟩ := lay (Below.refl _ _) (blk_below HP0.out hj.out); dsimp only [Grow.fillM, List.foldl]; go_simp; have cc := spec_dec W y.o (HF.out _ (by simp)); refine GrowK.UponK.made hj ?_; (with_reducible refine Calls.mono cc ?_); rintro e w' ⟨v, rfl, hr, hb⟩; exact ⟨_, rfl, GrowK.GAt.mk (P := BytesP (dec y.o)) (BytesP.of hr) (by intro p hp he; simp only [List.mem_cons, List.not_mem_nil, or_false] at hp; rcases hp with rfl | rfl | rfl | rfl | rfl <;> first | rfl | exact absurd he (by simp)), hb⟩) ?_
  refine GrowK.lexD_norm (fun K hK => ?_); go_simp; refine hK _ ?_; clear hK K
  refine GrowK.lexD_do _ (by rfl) (by rfl) (by intro W hj; obtain ⟨p1, p2⟩ := lay (Below.refl _ _) (blk_below HP0.out hj.out); go_simp; first | exact GrowK.UponK.val) ?_
  refine GrowK.lexD_norm (fun K hK => ?_); go_simp; refine hK _ ?_; clear hK K
  refine GrowK.lexD_do _ (by rfl) (by rfl) (by intro W hj; obtain ⟨p1, p2⟩ := lay (Below.refl _ _) (blk_below HP0.out hj.out); go_simp; first | exact GrowK.UponK.val) ?_
  refine GrowK.lexD_norm (fun K hK => ?_); go_simp; refine hK _ ?_; clear hK K
  refine GrowK.lexD_make (by rfl) (by rfl) (by intro u lo hi W hj hd; have hlow := hj.out.size; obtain ⟨p1, p2⟩ := lay (Below.refl _ _) (blk_below HP0.out hj.out); dsimp only [Grow.fillM, List.foldl]; go_simp; have cc := spec_dec W y.c (HF.out _ (by simp)); refine GrowK.UponK.made hj ?_; (with_reducible refine Calls.mono cc ?_); rintro e w' ⟨v, rfl, hr, hb⟩; exact ⟨_, rfl, GrowK.GAt.mk (P := BytesP (dec y.c)) (BytesP.of hr) (by intro p hp he; simp only [List.mem_cons, List.not_mem_nil, or_false] at hp; rcases hp with rfl | rfl | rfl | rfl | rfl <;> first | rfl | exact absurd he (by simp)), hb⟩) ?_
  refine GrowK.lexD_norm (fun K hK => ?_); go_simp; refine hK _ ?_; clear hK K
  refine GrowK.lexD_do _ (by rfl) (by rfl) (by intro W hj; obtain ⟨p1, p2⟩ := lay (Below.refl _ _) (blk_below HP0.out hj.out); go_simp; first | exact GrowK.UponK.val) ?_
  refine GrowK.lexD_norm (fun K hK => ?_); go_simp; refine hK _ ?_; clear hK K
  refine GrowK.lexD_do _ (by rfl) (by rfl) (by intro W hj; obtain ⟨p1, p2⟩ := lay (Below.refl _ _) (blk_below HP0.out hj.out); go_simp; first | exact GrowK.UponK.val) ?_
  refine GrowK.lexD_norm (fun K hK => ?_); go_simp; refine hK _ ?_; clear hK K
  refine GrowK.lexD_make (by rfl) (by rfl) (by intro u lo hi W hj hd; have hlow := hj.out.size; obtain ⟨p1, p2⟩ := lay (Below.refl _ _) (blk_below HP0.out hj.out); dsimp only [Grow.fillM, List.foldl]; go_simp; have cc := spec_dec W y.h (HF.out _ (by simp)); refine GrowK.UponK.made hj ?_; (with_reducible refine Calls.mono cc ?_); rintro e w' ⟨v, rfl, hr, hb⟩; exact ⟨_, rfl, GrowK.GAt.mk (P := BytesP (dec y.h)) (BytesP.of hr) (by intro p hp he; simp only [List.mem_cons, List.not_mem_nil, or_false] at hp; rcases hp with rfl | rfl | rfl | rfl | rfl <;> first | rfl | exact absurd he (by simp)), hb⟩) ?_
  refine GrowK.lexD_norm (fun K hK => ?_); go_simp; refine hK _ ?_; clear hK K
  refine GrowK.lexD_nil (fun u lo hi w1 hj hG hord => ?_)
  obtain ⟨A2, c2, hu2, hC2⟩ := (show BytesP (dec y.x) (u 2) (lo 2) w1 from ((hG 2 rfl).1).at (by simp))
  obtain ⟨A5, c5, hu5, hC5⟩ := (show BytesP (dec y.y) (u 5) (lo 5) w1 from ((hG 5 rfl).1).at (by simp))
  obtain ⟨A8, c8, hu8, hC8⟩ := (show BytesP (dec y.o) (u 8) (lo 8) w1 from ((hG 8 rfl).1).at (by simp))
  obtain ⟨A11, c11, hu11, hC11⟩ := (show BytesP (dec y.c) (u 11) (lo 11) w1 from ((hG 11 rfl).1).at (by simp))
  obtain ⟨A14, c14, hu14, hC14⟩ := (show BytesP (dec y.h) (u 14) (lo 14) w1 from ((hG 14 rfl).1).at (by simp))
  clear hG hord
  dsimp only [List.foldl]
  rw [hu2, hu5, hu8, hu11, hu14]
  clear hu2 hu5 hu8 hu11 hu14
  have HC := Aside0.mk (And.intro hC2 (And.intro hC5 (And.intro hC8 (And.intro hC11 hC14)))); clear hC2 hC5 hC8 hC11 hC14
  refine GrowK.wpl_norm (fun K hK => ?_); go_simp; refine hK _ ?_; clear hK K
  have hb := hj.out; clear hj
  have HB1 := Aside0.mk (bel_call HB0.out hb); have HP1 := Aside0.mk (blk_below HP0.out hb); have HSZ1 := Aside0.mk (Nat.le_trans HSZ0.out hb.size); clear hb
  go_wp2
  go_ret
  obtain ⟨h2, h5, h8, h11, h14⟩ := HC.out
  exact ⟨_, [⟨A2, (dec y.x).length, c2⟩, ⟨A5, (dec y.y).length, c5⟩, ⟨A8, (dec y.o).length, c8⟩, ⟨A11, (dec y.c).length, c11⟩, ⟨A14, (dec y.h).length, c14⟩], rfl, flat_lit (d := kSl) rfl w1 w.heap.size 28 [⟨A2, (dec y.x).length, c2⟩, ⟨A5, (dec y.y).length, c5⟩, ⟨A8, (dec y.o).length, c8⟩, ⟨A11, (dec y.c).length, c11⟩, ⟨A14, (dec y.h).length, c14⟩] HB1.out.size (sl_max 5 (by decide)), Flds.below (below_alloc (Below.refl _ _) _) (.cons rfl h2 (.cons rfl h5 (.cons rfl h8 (.cons rfl h11 (.cons rfl h14 (.nil _)))))), bel_box HB1.out _⟩
end
end Go.Proofs.YteefopaoodfapaaDoor.L1
