/- A text cut at a byte, as the reference tells it. Tags out of bytes, as the reference tells them. The kind of a line, as the reference tells it. What a numeral is, as the reference tells it. Numerals and numbers, plain: what a numeral spells, and the words that decimal printing gives. -/
import Derived.Test.YtogjkkbhmanbmaaGreatDoorQP4
import Derived.Laws.BytesArg
import Derived.Lib.ParseIntB
namespace Go.Proofs.YtogjkkbhmanbmaaGreatDoor.L1
open Go.RowKit Go.Proofs.YtogjkkbhmanbmaaGreatDoorW.PrintWords Go.Proofs.YtogjkkbhmanbmaaGreatDoor.B
set_option linter.unusedVariables false
set_option linter.unusedSimpArgs false
attribute [local go_sem] mk_cell mk_frozen
/-- The pieces that are done, and the one under way, behind k bytes. -/
def cutTo (sep : Int) (bs : List Int) : Nat → List (List Int) × List Int
  | 0 => ([], [])
  | k + 1 => if bs.getD k 0 = sep then ((cutTo sep bs k).1 ++ [(cutTo sep bs k).2], []) else ((cutTo sep bs k).1, (cutTo sep bs k).2 ++ [bs.getD k 0])
def pieces (sep : Int) (bs : List Int) : List (List Int) := (cutTo sep bs bs.length).1 ++ [(cutTo sep bs bs.length).2]
theorem cutTo_len (sep : Int) (bs : List Int) : ∀ k, (cutTo sep bs k).1.length + (cutTo sep bs k).2.length ≤ k
  | 0 => by simp [cutTo]
  | k + 1 => by
    have := cutTo_len sep bs k
    unfold cutTo
    split
    · simp only [List.length_append, List.length_cons, List.length_nil]; omega
    · simp only [List.length_append, List.length_cons, List.length_nil]; omega
/-- A row is left alone by what grows a row of another type. -/
theorem R_apart {α : Type} {d : Kd α} {e base : Nat} {ok : Nat → Prop} {W W1 : World} {v : Value} {xs : List α} {row : Option Nat} {T' : TypeId} (h : d.R e W base ok v xs) (hg : W.grownBy W1 row) (hrow : ∀ i, row = some i → ∃ (cs : Array Value) (fr : Nat × Nat), W.heap[i]? = some (Obj.cells cs T' fr)) (hne : T' ∉ e :: d.E) : d.R e W1 base (fun _ => True) v xs := by
  refine Kd.R_mono (Kd.R_grown (Kd.R_mono (Kd.R_bound h) (ok' := fun k => some k ≠ row) ?_) hg (fun k hk => hk)) fun _ _ => trivial
  rintro k ⟨_, _, _, q, hq, cells, hc⟩ he
  obtain ⟨cs, fr, h2⟩ := hrow k he.symm
  rw [hc] at h2
  cases h2
  exact hne hq
theorem byte_own {W : World} {base : Nat} {ok : Nat → Prop} {v : Value} {xs : List Int} (h : kByte.R 5 W base ok v xs) : ∀ i, v.ownBlock = some i → ∃ (cs : Array Value) (fr : Nat × Nat), W.heap[i]? = some (Obj.cells cs 5 fr) := fun i e => by
  obtain ⟨inner, ho⟩ := Kd.R_own h
  obtain ⟨cells, hc⟩ := own_typed ho i e
  exact ⟨cells, _, hc⟩
/-- The forms of the pieces: their rooms, and that their rows begin a block. -/
def Fit : List Sl → List (List Int) → Prop
  | [], [] => True
  | p :: ps, f :: fs => (f.length ≤ p.c ∧ ((p.A = none ∧ f = []) ∨ ∃ b, p.A = some ⟨b, 0, none⟩)) ∧ Fit ps fs
  | _, _ => False
theorem Fit.append : ∀ {ps : List Sl} {fs : List (List Int)} {qs : List Sl} {gs : List (List Int)}, Fit ps fs → Fit qs gs → Fit (ps ++ qs) (fs ++ gs)
  | [], [], _, _, _, h => h
  | p :: ps, f :: fs, qs, gs, h, h2 => ⟨h.1, Fit.append h.2 h2⟩
theorem Fit.at : ∀ {ps : List Sl} {fs : List (List Int)}, Fit ps fs → ∀ j, j < fs.length → (fs.getD j []).length ≤ (ps.getD j zSl).c ∧ (((ps.getD j zSl).A = none ∧ fs.getD j [] = []) ∨ ∃ b, (ps.getD j zSl).A = some ⟨b, 0, none⟩)
  | [], [], _, _, hj => absurd hj (Nat.not_lt_zero _)
  | p :: ps, f :: fs, h, 0, _ => h.1
  | p :: ps, f :: fs, h, j + 1, hj => Fit.at h.2 j (by rw [List.length_cons] at hj; omega)
theorem Fit.one {W : World} {base : Nat} {ok : Nat → Prop} {A : Option Addr} {n c : Nat} {xs : List Int} (h : kByte.R 5 W base ok (.slice A n c) xs) : Fit [⟨A, n, c⟩] [xs] := by
  have hr := Kd.R_reads' h
  obtain ⟨inner, _, ho⟩ := Kd.R_own h
  refine ⟨⟨by have := hr.1; have := hr.2.1; show _ ≤ c; omega, ?_⟩, trivial⟩
  rcases ho with ⟨e, hn⟩ | ⟨g, cap, cur, e, _⟩
  · injection e with e1 e2 e3; exact Or.inl ⟨e1, List.eq_nil_of_length_eq_zero hn⟩
  · injection e with e1 e2 e3; exact Or.inr ⟨g, e1⟩
section
variable (w : World)
set_option maxRecDepth 100000 in
set_option maxHeartbeats 4000000 in
theorem spec_split (A : Option Addr) (c : Nat) (bs : List Int) (sep : Int) (hr : kByte.C w A bs.length bs) (hl : bs.length ≤ 1048576) : Calls Tryz.prog 12 #[.slice A bs.length c, .int .u8 sep] w fun e w' => ∃ v ps, e = .returned v ∧ kSl.R 22 w' w.heap.size (fun _ => True) v ps ∧ Flds w' ps (pieces sep bs) ∧ Fit ps (pieces sep bs) ∧ Below w.heap.size w w' := by
  have HR := Aside0.mk hr; clear hr
  have HO0 := Aside0.mk (flat_lit (d := kSl) rfl w w.heap.size 22 [] (Nat.le_refl _) (Nat.zero_le _))
  have HB0 := Aside0.mk (below_alloc (Below.refl w.heap.size w) (.cells #[] 22))
  go_enter Tryz.func12, Tryz.ntmps12
  go_wp2_with fail
  have HX0 := Aside0.mk (show ∃ wL : World, Below w.heap.size w wL ∧ Below wL.heap.size wL ((w.alloc (.cells #[] 22)).alloc (.cells #[] 5)) ∧ kByte.R 5 ((w.alloc (.cells #[] 22)).alloc (.cells #[] 5)) wL.heap.size (fun _ => True) (.slice (some ⟨w.heap.size + 1, 0, none⟩) 0 0) [] from ⟨w.alloc (.cells #[] 22), HB0.out, below_alloc (Below.refl _ _) _, by have h := flat_lit (d := kByte) rfl (w.alloc (.cells #[] 22)) (w.alloc (.cells #[] 22)).heap.size 5 [] (Nat.le_refl _) (Nat.zero_le _); rw [al_size] at h ⊢; exact h⟩)
  go_loopg [5, 6, 7] (bs.length + 1) (fun q v5 v6 v7 wr => ∃ (k : Nat) (ps : List Sl) (wL : World), q = bs.length + 1 - k ∧ k ≤ bs.length ∧ v7 = .int .i64 k ∧ Aside0 (kSl.R 22 wr w.heap.size (fun _ => True) v5 ps) ∧ Aside0 (Flds wL ps (cutTo sep bs k).1) ∧ Aside0 (Fit ps (cutTo sep bs k).1) ∧ Aside0 (Below w.heap.size w wL) ∧ Aside0 (Below wL.heap.size wL wr) ∧ Aside0 (kByte.R 5 wr wL.heap.size (fun _ => True) v6 (cutTo sep bs k).2))
  case atStart =>
    obtain ⟨wL, h1, h2, h3⟩ := HX0.out
    exact ⟨0, [], wL, by omega, by omega, rfl, ⟨Kd.R_alloc HO0.out _⟩, ⟨trivial⟩, ⟨trivial⟩, ⟨h1⟩, ⟨h2⟩, ⟨h3⟩⟩
  case round =>
    obtain ⟨k, ps, wL, rfl, hk, rfl, HO, HX, HF, HL, HB, HC⟩ := hrel
    clear HO0 HB0 HX0
    have HN := Aside0.mk (cutTo_len sep bs k)
    have HPL := Aside0.mk HX.out.len
    have HW := Aside0.mk (bel_call HL.out HB.out)
    obtain ⟨Ao, co, rfl⟩ := Kd.R_slice HO.out
    obtain ⟨Ac, cc, rfl⟩ := Kd.R_slice HC.out
    by_cases hlt : k < bs.length
    · obtain ⟨ad, e0, t0, _⟩ := Kd.flat_cells (d := kByte) rfl (Kd.C_below HR.out HW.out) 0 k hlt
      have y0 := t0 _ rfl
      simp only [Nat.mul_one] at y0
      clear t0
      cases e0
      by_cases hs : bs.getD k 0 = sep
      · have HU := Aside0.mk (show cutTo sep bs (k + 1) = ((cutTo sep bs k).1 ++ [(cutTo sep bs k).2], []) by show (if _ then _ else _) = _; rw [if_pos hs])
        have p0 : (bs.getD k 0 == sep) = true := by rw [hs]; exact beq_self_eq_true _
        have p1 : decide (bs.getD k 0 = sep) = true := decide_eq_true hs
        clear hs
        generalize bs.getD k 0 = y at y0 p0 p1
        generalize (cutTo sep bs k).1 = os at HX HF HN HPL HU
        generalize (cutTo sep bs k).2 = cs at HC HN HU
        have HFN := Aside0.mk (Fit.one HC.out)
        have HS := Aside0.mk (flat_lit (d := kSl) rfl wr w.heap.size 22 [⟨Ac, cs.length, cc⟩] HW.out.size (sl_max 1 (by decide)))
        go_wp2_with (refine Kd.flat_append_row kSl rfl (w0 := w) w.heap.size rfl _ _ 37 22 zSl 24 rfl Tryz.underlying37 (by kernel_rfl) (by decide) (by decide) (.slice Ao ps.length co) ps [⟨Ac, cs.length, cc⟩] _ _ _ rfl rfl (Kd.R_alloc HO.out (.cells #[.slice Ac cs.length cc] 22)) (Kd.R_reads' HS.out).2.2 (bel_box HW.out (.cells #[.slice Ac cs.length cc] 22)) (bel_box HW.out (.cells #[.slice Ac cs.length cc] 22)).size (by have h1 := HN.out; have h2 := HPL.out; rw [h2]; show (_ + 1) * 24 ≤ _; omega) ?_; intro v2 w2 hr hb hg _; have HO2 := Aside0.mk hr; have HB2 := Aside0.mk hb; have HX2 := Aside0.mk (Flds.grown (Kd.R_alloc HO.out (.cells #[.slice Ac cs.length cc] 22)) hg (Flds.below (below_alloc (Below.refl _ _) (.cells #[.slice Ac cs.length cc] 22)) (Flds.append (Flds.below HB.out HX.out) (Flds.cons (p := ⟨Ac, cs.length, cc⟩) rfl ⟨(Kd.R_reads' HC.out).2.2, Ty.own HC.out⟩ (Flds.nil _))))); clear hr hb hg)
        go_roundg (bs.length + 1 - (k + 1))
        case measure => omega
        case rel => exact ⟨k + 1, ps ++ [⟨Ac, cs.length, cc⟩], w2, rfl, hlt, by go_num, ⟨Kd.R_alloc HO2.out _⟩, ⟨by rw [HU.out]; exact HX2.out⟩, ⟨by rw [HU.out]; exact Fit.append HF.out HFN.out⟩, HB2, ⟨below_alloc (Below.refl _ _) _⟩, ⟨by rw [HU.out]; exact flat_lit (d := kByte) rfl w2 w2.heap.size 5 [] (Nat.le_refl _) (Nat.zero_le _)⟩⟩
      · have HU := Aside0.mk (show cutTo sep bs (k + 1) = ((cutTo sep bs k).1, (cutTo sep bs k).2 ++ [bs.getD k 0]) by show (if _ then _ else _) = _; rw [if_neg hs])
        have p0 : (bs.getD k 0 == sep) = false := beq_false_of_ne hs
        have p1 : decide (bs.getD k 0 = sep) = false := decide_eq_false hs
        clear hs
        generalize bs.getD k 0 = y at y0 p0 p1 HU
        generalize (cutTo sep bs k).1 = os at HX HF HN HPL HU
        generalize (cutTo sep bs k).2 = cs at HC HN HU
        go_wp2_with (refine Kd.flat_append_row kByte rfl (w0 := wL) wL.heap.size rfl _ _ 22 5 0 1 rfl Tryz.underlying22 (by kernel_rfl) (by decide) (by decide) (.slice Ac cs.length cc) cs [y] _ _ _ rfl rfl (Kd.R_alloc HC.out (.cells #[.int .u8 y] 5)) (Kd.R_reads' (flat_lit (d := kByte) rfl wr wL.heap.size 5 [y] HB.out.size (le1 _))).2.2 (bel_box HB.out (.cells #[.int .u8 y] 5)) (bel_box HB.out (.cells #[.int .u8 y] 5)).size (by have h1 := HN.out; show (_ + 1) * 1 ≤ _; omega) ?_; intro v2 w2 hr hb hg _; have HC2 := Aside0.mk hr; have HB2 := Aside0.mk hb; have HO2 := Aside0.mk (R_apart (Kd.R_alloc HO.out (.cells #[.int .u8 y] 5)) hg (byte_own (Kd.R_alloc HC.out (.cells #[.int .u8 y] 5))) (by decide)); clear hr hb hg)
        go_roundg (bs.length + 1 - (k + 1))
        case measure => omega
        case rel => exact ⟨k + 1, ps, wL, rfl, hlt, by go_num, HO2, ⟨by rw [HU.out]; exact HX.out⟩, ⟨by rw [HU.out]; exact HF.out⟩, HL, HB2, ⟨by rw [HU.out]; exact HC2.out⟩⟩
    · have hke : k = bs.length := by omega
      subst hke
      have HU := Aside0.mk (show pieces sep bs = (cutTo sep bs bs.length).1 ++ [(cutTo sep bs bs.length).2] from rfl)
      generalize (cutTo sep bs bs.length).1 = os at HX HF HN HPL HU
      generalize (cutTo sep bs bs.length).2 = cs at HC HN HU
      have HFN := Aside0.mk (Fit.one HC.out)
      have HS := Aside0.mk (flat_lit (d := kSl) rfl wr w.heap.size 22 [⟨Ac, cs.length, cc⟩] HW.out.size (sl_max 1 (by decide)))
      go_wp2_with (refine Kd.flat_append_row kSl rfl (w0 := w) w.heap.size rfl _ _ 37 22 zSl 24 rfl Tryz.underlying37 (by kernel_rfl) (by decide) (by decide) (.slice Ao ps.length co) ps [⟨Ac, cs.length, cc⟩] _ _ _ rfl rfl (Kd.R_alloc HO.out (.cells #[.slice Ac cs.length cc] 22)) (Kd.R_reads' HS.out).2.2 (bel_box HW.out (.cells #[.slice Ac cs.length cc] 22)) (bel_box HW.out (.cells #[.slice Ac cs.length cc] 22)).size (by have h1 := HN.out; have h2 := HPL.out; rw [h2]; show (_ + 1) * 24 ≤ _; omega) ?_; intro v2 w2 hr hb hg _; have HO2 := Aside0.mk hr; have HB2 := Aside0.mk hb; have HX2 := Aside0.mk (Flds.grown (Kd.R_alloc HO.out (.cells #[.slice Ac cs.length cc] 22)) hg (Flds.below (below_alloc (Below.refl _ _) (.cells #[.slice Ac cs.length cc] 22)) (Flds.append (Flds.below HB.out HX.out) (Flds.cons (p := ⟨Ac, cs.length, cc⟩) rfl ⟨(Kd.R_reads' HC.out).2.2, Ty.own HC.out⟩ (Flds.nil _))))); clear hr hb hg)
      go_ret
      refine ⟨v2, rfl, ps ++ [⟨Ac, cs.length, cc⟩], HO2.out, ?_, ?_, HB2.out⟩
      · rw [HU.out]; exact HX2.out
      · rw [HU.out]; exact Fit.append HF.out HFN.out
end
end Go.Proofs.YtogjkkbhmanbmaaGreatDoor.L1
namespace Go.Proofs.YtogjkkbhmanbmaaGreatDoor.L1
open Go.RowKit Go.Proofs.YtogjkkbhmanbmaaGreatDoorW.PrintWords Go.Proofs.YtogjkkbhmanbmaaGreatDoor.B
set_option linter.unusedVariables false
set_option linter.unusedSimpArgs false
attribute [local go_sem] mk_cell mk_frozen
def tagBit (b : Int) : Int := if b = 45 then 0 else 2 ^ (b - 97).toNat
def tagSum (f : List Int) : Nat → Int
  | 0 => 0
  | k + 1 => tagSum f k + tagBit (f.getD k 0)
def tagByte (b : Int) : Prop := b = 45 ∨ (97 ≤ b ∧ b ≤ 112)
theorem tagBit_bd {b : Int} (h : tagByte b) : 0 ≤ tagBit b ∧ tagBit b ≤ 32768 := by
  rcases h with rfl | ⟨h0, h1⟩
  · exact ⟨by decide, by decide⟩
  · rcases (show b = 97 ∨ b = 98 ∨ b = 99 ∨ b = 100 ∨ b = 101 ∨ b = 102 ∨ b = 103 ∨ b = 104 ∨ b = 105 ∨ b = 106 ∨ b = 107 ∨ b = 108 ∨ b = 109 ∨ b = 110 ∨ b = 111 ∨ b = 112 by omega) with rfl | rfl | rfl | rfl | rfl | rfl | rfl | rfl | rfl | rfl | rfl | rfl | rfl | rfl | rfl | rfl <;> exact ⟨by decide, by decide⟩
theorem tagSum_bd {f : List Int} (h : ∀ b, b ∈ f → tagByte b) : ∀ k, k ≤ f.length → 0 ≤ tagSum f k ∧ tagSum f k ≤ 32768 * k
  | 0, _ => by simp [tagSum]
  | k + 1, hk => by
    have h1 := tagSum_bd h k (by omega)
    have h2 := tagBit_bd (h (f.getD k 0) (by rw [List.getD_eq_getElem?_getD, List.getElem?_eq_getElem (by omega)]; exact List.getElem_mem _))
    show 0 ≤ tagSum f k + _ ∧ tagSum f k + _ ≤ _
    omega
section
variable (w : World)
set_option maxRecDepth 100000 in
set_option maxHeartbeats 2000000 in
theorem spec_tags (A : Option Addr) (c : Nat) (f : List Int) (hr : kByte.C w A f.length f) (hf : ∀ b, b ∈ f → tagByte b) (hl : f.length ≤ 1048576) : Calls Tryz.prog 25 #[.slice A f.length c] w fun e w' => e = .returned (.int .i64 (tagSum f f.length)) ∧ w = w' := by
  have HR := Aside0.mk hr; have HF := Aside0.mk hf; clear hr hf
  go_enter Tryz.func25, Tryz.ntmps25
  go_wp2_with fail
  go_loopg [3, 4] (f.length + 1) (fun q v3 v4 wr => ∃ k : Nat, q = f.length + 1 - k ∧ k ≤ f.length ∧ v3 = .int .i64 (tagSum f k) ∧ v4 = .int .i64 k ∧ wr = w)
  case atStart => exact ⟨0, by omega, by omega, rfl, rfl, rfl⟩
  case round =>
    obtain ⟨k, rfl, hk, rfl, rfl, rfl⟩ := hrel
    by_cases hlt : k < f.length
    · obtain ⟨ad, e0, t0, _⟩ := Kd.flat_cells (d := kByte) rfl HR.out 0 k hlt
      have y0 := t0 _ rfl
      simp only [Nat.mul_one] at y0
      clear t0
      cases e0
      have HT := Aside0.mk (HF.out (f.getD k 0) (by rw [List.getD_eq_getElem?_getD, List.getElem?_eq_getElem hlt]; exact List.getElem_mem hlt))
      have HU := Aside0.mk (show tagSum f (k + 1) = tagSum f k + tagBit (f.getD k 0) from rfl)
      have hbd := tagSum_bd HF.out k hk
      generalize f.getD k 0 = y at y0 HT HU
      generalize tagSum f k = s at HU hbd ⊢
      have hy : y = 45 ∨ y = 97 ∨ y = 98 ∨ y = 99 ∨ y = 100 ∨ y = 101 ∨ y = 102 ∨ y = 103 ∨ y = 104 ∨ y = 105 ∨ y = 106 ∨ y = 107 ∨ y = 108 ∨ y = 109 ∨ y = 110 ∨ y = 111 ∨ y = 112 := by rcases HT.out with h | ⟨h0, h1⟩ <;> omega
      rcases hy with rfl | rfl | rfl | rfl | rfl | rfl | rfl | rfl | rfl | rfl | rfl | rfl | rfl | rfl | rfl | rfl | rfl
      · have HQ := Aside0.mk (show tagSum f (k + 1) = s by rw [HU.out]; exact Int.add_zero _); clear hbd
        go_wp2
        go_roundg (f.length + 1 - (k + 1))
        case measure => omega
        case rel => exact ⟨k + 1, rfl, hlt, by rw [HQ.out], by go_num, rfl⟩
      · have q0 : IntKind.i64.wrap (s + 1) = s + 1 := IntWalk.i64_in _ (by omega)
        have HQ := Aside0.mk (show tagSum f (k + 1) = s + 1 by rw [HU.out]; rfl); clear hbd
        go_wp2
        go_roundg (f.length + 1 - (k + 1))
        case measure => omega
        case rel => exact ⟨k + 1, rfl, hlt, by rw [HQ.out], by go_num, rfl⟩
      · have q0 : IntKind.i64.wrap (s + 2) = s + 2 := IntWalk.i64_in _ (by omega)
        have HQ := Aside0.mk (show tagSum f (k + 1) = s + 2 by rw [HU.out]; rfl); clear hbd
        go_wp2
        go_roundg (f.length + 1 - (k + 1))
        case measure => omega
        case rel => exact ⟨k + 1, rfl, hlt, by rw [HQ.out], by go_num, rfl⟩
      · have q0 : IntKind.i64.wrap (s + 4) = s + 4 := IntWalk.i64_in _ (by omega)
        have HQ := Aside0.mk (show tagSum f (k + 1) = s + 4 by rw [HU.out]; rfl); clear hbd
        go_wp2
        go_roundg (f.length + 1 - (k + 1))
        case measure => omega
        case rel => exact ⟨k + 1, rfl, hlt, by rw [HQ.out], by go_num, rfl⟩
      · have q0 : IntKind.i64.wrap (s + 8) = s + 8 := IntWalk.i64_in _ (by omega)
        have HQ := Aside0.mk (show tagSum f (k + 1) = s + 8 by rw [HU.out]; rfl); clear hbd
        go_wp2
        go_roundg (f.length + 1 - (k + 1))
        case measure => omega
        case rel => exact ⟨k + 1, rfl, hlt, by rw [HQ.out], by go_num, rfl⟩
      · have q0 : IntKind.i64.wrap (s + 16) = s + 16 := IntWalk.i64_in _ (by omega)
        have HQ := Aside0.mk (show tagSum f (k + 1) = s + 16 by rw [HU.out]; rfl); clear hbd
        go_wp2
        go_roundg (f.length + 1 - (k + 1))
        case measure => omega
        case rel => exact ⟨k + 1, rfl, hlt, by rw [HQ.out], by go_num, rfl⟩
      · have q0 : IntKind.i64.wrap (s + 32) = s + 32 := IntWalk.i64_in _ (by omega)
        have HQ := Aside0.mk (show tagSum f (k + 1) = s + 32 by rw [HU.out]; rfl); clear hbd
        go_wp2
        go_roundg (f.length + 1 - (k + 1))
        case measure => omega
        case rel => exact ⟨k + 1, rfl, hlt, by rw [HQ.out], by go_num, rfl⟩
      · have q0 : IntKind.i64.wrap (s + 64) = s + 64 := IntWalk.i64_in _ (by omega)
        have HQ := Aside0.mk (show tagSum f (k + 1) = s + 64 by rw [HU.out]; rfl); clear hbd
        go_wp2
        go_roundg (f.length + 1 - (k + 1))
        case measure => omega
        case rel => exact ⟨k + 1, rfl, hlt, by rw [HQ.out], by go_num, rfl⟩
      · have q0 : IntKind.i64.wrap (s + 128) = s + 128 := IntWalk.i64_in _ (by omega)
        have HQ := Aside0.mk (show tagSum f (k + 1) = s + 128 by rw [HU.out]; rfl); clear hbd
        go_wp2
        go_roundg (f.length + 1 - (k + 1))
        case measure => omega
        case rel => exact ⟨k + 1, rfl, hlt, by rw [HQ.out], by go_num, rfl⟩
      · have q0 : IntKind.i64.wrap (s + 256) = s + 256 := IntWalk.i64_in _ (by omega)
        have HQ := Aside0.mk (show tagSum f (k + 1) = s + 256 by rw [HU.out]; rfl); clear hbd
        go_wp2
        go_roundg (f.length + 1 - (k + 1))
        case measure => omega
        case rel => exact ⟨k + 1, rfl, hlt, by rw [HQ.out], by go_num, rfl⟩
      · have q0 : IntKind.i64.wrap (s + 512) = s + 512 := IntWalk.i64_in _ (by omega)
        have HQ := Aside0.mk (show tagSum f (k + 1) = s + 512 by rw [HU.out]; rfl); clear hbd
        go_wp2
        go_roundg (f.length + 1 - (k + 1))
        case measure => omega
        case rel => exact ⟨k + 1, rfl, hlt, by rw [HQ.out], by go_num, rfl⟩
      · have q0 : IntKind.i64.wrap (s + 1024) = s + 1024 := IntWalk.i64_in _ (by omega)
        have HQ := Aside0.mk (show tagSum f (k + 1) = s + 1024 by rw [HU.out]; rfl); clear hbd
        go_wp2
        go_roundg (f.length + 1 - (k + 1))
        case measure => omega
        case rel => exact ⟨k + 1, rfl, hlt, by rw [HQ.out], by go_num, rfl⟩
      · have q0 : IntKind.i64.wrap (s + 2048) = s + 2048 := IntWalk.i64_in _ (by omega)
        have HQ := Aside0.mk (show tagSum f (k + 1) = s + 2048 by rw [HU.out]; rfl); clear hbd
        go_wp2
        go_roundg (f.length + 1 - (k + 1))
        case measure => omega
        case rel => exact ⟨k + 1, rfl, hlt, by rw [HQ.out], by go_num, rfl⟩
      · have q0 : IntKind.i64.wrap (s + 4096) = s + 4096 := IntWalk.i64_in _ (by omega)
        have HQ := Aside0.mk (show tagSum f (k + 1) = s + 4096 by rw [HU.out]; rfl); clear hbd
        go_wp2
        go_roundg (f.length + 1 - (k + 1))
        case measure => omega
        case rel => exact ⟨k + 1, rfl, hlt, by rw [HQ.out], by go_num, rfl⟩
      · have q0 : IntKind.i64.wrap (s + 8192) = s + 8192 := IntWalk.i64_in _ (by omega)
        have HQ := Aside0.mk (show tagSum f (k + 1) = s + 8192 by rw [HU.out]; rfl); clear hbd
        go_wp2
        go_roundg (f.length + 1 - (k + 1))
        case measure => omega
        case rel => exact ⟨k + 1, rfl, hlt, by rw [HQ.out], by go_num, rfl⟩
      · have q0 : IntKind.i64.wrap (s + 16384) = s + 16384 := IntWalk.i64_in _ (by omega)
        have HQ := Aside0.mk (show tagSum f (k + 1) = s + 16384 by rw [HU.out]; rfl); clear hbd
        go_wp2
        go_roundg (f.length + 1 - (k + 1))
        case measure => omega
        case rel => exact ⟨k + 1, rfl, hlt, by rw [HQ.out], by go_num, rfl⟩
      · have q0 : IntKind.i64.wrap (s + 32768) = s + 32768 := IntWalk.i64_in _ (by omega)
        have HQ := Aside0.mk (show tagSum f (k + 1) = s + 32768 by rw [HU.out]; rfl); clear hbd
        go_wp2
        go_roundg (f.length + 1 - (k + 1))
        case measure => omega
        case rel => exact ⟨k + 1, rfl, hlt, by rw [HQ.out], by go_num, rfl⟩
    · have hke : k = f.length := by omega
      subst hke
      go_wp2
      go_ret
      exact ⟨rfl, rfl⟩
end
end Go.Proofs.YtogjkkbhmanbmaaGreatDoor.L1
namespace Go.Proofs.YtogjkkbhmanbmaaGreatDoor.L1
open Go.RowKit Go.Proofs.YtogjkkbhmanbmaaGreatDoorW.PrintWords Go.Proofs.YtogjkkbhmanbmaaGreatDoor.B
set_option linter.unusedVariables false
set_option linter.unusedSimpArgs false
attribute [local go_sem] mk_cell mk_frozen
def kindOf (f : List Int) : Int := if f = wVehicle then 1 else if f = wRequest then 2 else if f = wRoad then 3 else 0
theorem toU_ofU (ws : List UInt8) : (ofU ws).map (fun n => UInt8.ofNat n.toNat) = ws := by
  unfold ofU
  rw [List.map_map]
  refine Eq.trans (List.map_congr_left (g := id) fun b _ => ?_) (List.map_id ws)
  show UInt8.ofNat (Int.toNat (b.toNat : Int)) = b
  rw [Int.toNat_natCast]
  exact UInt8.ofNat_toNat
theorem ofU_toU {f : List Int} (hb : ∀ x, x ∈ f → 0 ≤ x ∧ x < 256) : ofU (f.map fun n => UInt8.ofNat n.toNat) = f := by
  unfold ofU
  rw [List.map_map]
  refine Eq.trans (List.map_congr_left (g := id) fun x hx => ?_) (List.map_id f)
  have := hb x hx
  show ((UInt8.ofNat x.toNat).toNat : Int) = x
  rw [UInt8.toNat_ofNat']
  omega
theorem str_beq {f : List Int} (hb : ∀ x, x ∈ f → 0 ≤ x ∧ x < 256) (ws : List UInt8) : ((strOfNums f).toList == ws) = decide (f = ofU ws) := by
  have e : (strOfNums f).toList = f.map fun n => UInt8.ofNat n.toNat := by rw [ByteArray.toList_eq]; rfl
  rw [e]
  by_cases h : f = ofU ws
  · rw [decide_eq_true h]
    have h2 : f.map (fun n => UInt8.ofNat n.toNat) = ws := by rw [h]; exact toU_ofU ws
    rw [h2]
    exact beq_self_eq_true _
  · rw [decide_eq_false h]
    exact beq_false_of_ne fun h2 => h (by rw [← h2, ofU_toU hb])
section
variable (w : World)
set_option maxRecDepth 100000 in
set_option maxHeartbeats 2000000 in
theorem spec_kind (b off c : Nat) (f : List Int) (hb : ∀ x, x ∈ f → 0 ≤ x ∧ x < 256) (hr : kByte.C w (some ⟨b, off, none⟩) f.length f) : Calls Tryz.prog 21 #[.slice (some ⟨b, off, none⟩) f.length c] w fun e w' => e = .returned (.int .i64 (kindOf f)) ∧ w = w' := by
  have hcv := Go.run_convert_bytes_arg w 22 5 Tryz.underlying22 Tryz.underlying5 b off f.length c f rfl (fun i hi => by
    obtain ⟨ad, e0, t0, _⟩ := Kd.flat_cells (d := kByte) rfl hr 0 i hi
    cases e0
    have := t0 _ rfl
    rwa [Nat.mul_one, Addr.add_lit] at this) 9 Tryz.underlying9
  have h1 := str_beq hb [118, 101, 104, 105, 99, 108, 101]
  have h2 := str_beq hb [114, 101, 113, 117, 101, 115, 116]
  have h3 := str_beq hb [114, 111, 97, 100]
  generalize strOfNums f = st at hcv h1 h2 h3
  by_cases k1 : f = wVehicle
  · rw [decide_eq_true (show f = ofU [118, 101, 104, 105, 99, 108, 101] from k1)] at h1
    have HK := Aside0.mk (show kindOf f = 1 by unfold kindOf; rw [if_pos k1])
    clear k1 h2 h3 hr hb
    go_enter Tryz.func21, Tryz.ntmps21
    go_wp2
    go_ret
    exact ⟨by rw [HK.out]; rfl, rfl⟩
  rw [decide_eq_false (show ¬ f = ofU [118, 101, 104, 105, 99, 108, 101] from k1)] at h1
  by_cases k2 : f = wRequest
  · rw [decide_eq_true (show f = ofU [114, 101, 113, 117, 101, 115, 116] from k2)] at h2
    have HK := Aside0.mk (show kindOf f = 2 by unfold kindOf; rw [if_neg k1, if_pos k2])
    clear k1 k2 h3 hr hb
    go_enter Tryz.func21, Tryz.ntmps21
    go_wp2
    go_ret
    exact ⟨by rw [HK.out]; rfl, rfl⟩
  rw [decide_eq_false (show ¬ f = ofU [114, 101, 113, 117, 101, 115, 116] from k2)] at h2
  by_cases k3 : f = wRoad
  · rw [decide_eq_true (show f = ofU [114, 111, 97, 100] from k3)] at h3
    have HK := Aside0.mk (show kindOf f = 3 by unfold kindOf; rw [if_neg k1, if_neg k2, if_pos k3])
    clear k1 k2 k3 hr hb
    go_enter Tryz.func21, Tryz.ntmps21
    go_wp2
    go_ret
    exact ⟨by rw [HK.out]; rfl, rfl⟩
  rw [decide_eq_false (show ¬ f = ofU [114, 111, 97, 100] from k3)] at h3
  have HK := Aside0.mk (show kindOf f = 0 by unfold kindOf; rw [if_neg k1, if_neg k2, if_neg k3])
  clear k1 k2 k3 hr hb
  go_enter Tryz.func21, Tryz.ntmps21
  go_wp2
  go_ret
  exact ⟨by rw [HK.out]; rfl, rfl⟩
end
end Go.Proofs.YtogjkkbhmanbmaaGreatDoor.L1
namespace Go.Proofs.YtogjkkbhmanbmaaGreatDoor.L1
open Go.RowKit Go.Proofs.YtogjkkbhmanbmaaGreatDoorW.PrintWords Go.Proofs.YtogjkkbhmanbmaaGreatDoor.B
set_option linter.unusedVariables false
set_option linter.unusedSimpArgs false
attribute [local go_sem] mk_cell mk_frozen
def digsOk (d : List Int) : Bool := decide (1 ≤ d.length ∧ d.length ≤ 9) && decide (d.getD 0 0 ≠ 48) && allI d.length (fun k => inB (d.getD k 0) 48 57)
def numTail (f : List Int) : List Int := if f.getD 0 0 = 45 then f.drop 1 else f
def isNum (f : List Int) : Bool := decide (f = [48]) || digsOk (numTail f)
theorem digsOk_len {d : List Int} (h : ¬ (1 ≤ d.length ∧ d.length ≤ 9)) : digsOk d = false := by simp [digsOk, h]
theorem digsOk_zero {d : List Int} (h : d.getD 0 0 = 48) : digsOk d = false := by unfold digsOk; rw [decide_eq_false (show ¬ d.getD 0 0 ≠ 48 from fun hh => hh h), Bool.and_false, Bool.false_and]
theorem digsOk_bad {d : List Int} {k : Nat} (hk : k < d.length) (h : inB (d.getD k 0) 48 57 = false) : digsOk d = false := by unfold digsOk; rw [allI_false (f := fun k => inB (d.getD k 0) 48 57) hk h]; simp
theorem digsOk_all {d : List Int} (h1 : 1 ≤ d.length ∧ d.length ≤ 9) (h2 : d.getD 0 0 ≠ 48) (h3 : allI d.length (fun k => inB (d.getD k 0) 48 57) = true) : digsOk d = true := by simp only [digsOk, h3, decide_eq_true h1, decide_eq_true h2, Bool.and_self]
section
variable (w : World)
set_option maxRecDepth 100000 in
set_option maxHeartbeats 4000000 in
theorem spec_isNumber_nil (A : Option Addr) (c : Nat) : Calls Tryz.prog 23 #[.slice A 0 c] w fun e w' => e = .returned (.bool false) ∧ w = w' := by
  go_enter Tryz.func23, Tryz.ntmps23
  go_wp2
  go_ret
  exact ⟨rfl, rfl⟩
set_option maxRecDepth 100000 in
set_option maxHeartbeats 4000000 in
theorem spec_isNumber (ad : Addr) (c : Nat) (x : Int) (f : List Int) (hr : kByte.C w (some ad) (f.length + 1) (x :: f)) (hc : f.length + 1 ≤ c) (hl : f.length ≤ 1048576) : Calls Tryz.prog 23 #[.slice (some ad) (f.length + 1) c] w fun e w' => e = .returned (.bool (isNum (x :: f))) ∧ w = w' := by
  have HR := Aside0.mk hr
  obtain ⟨ad', e0, t0, _⟩ := Kd.flat_cells (d := kByte) rfl hr 0 0 (Nat.zero_lt_succ _)
  cases e0
  have y0 := t0 _ rfl
  simp only [Nat.zero_mul] at y0
  replace y0 : w.cell? ad = some (.int .u8 x) := y0
  clear t0 hr
  by_cases h0 : f.length = 0 ∧ x = 48
  · obtain ⟨hf0, rfl⟩ := h0
    obtain rfl : f = [] := List.eq_nil_of_length_eq_zero hf0
    clear hf0
    go_enter Tryz.func23, Tryz.ntmps23
    go_wp2
    go_ret
    exact ⟨rfl, rfl⟩
  have HNE := Aside0.mk (show (x :: f) ≠ [48] by intro h; cases h; exact h0 ⟨rfl, rfl⟩)
  by_cases h45 : x = 45
  · subst h45
    have HI := Aside0.mk (show isNum (45 :: f) = digsOk f by unfold isNum; rw [decide_eq_false HNE.out]; rfl)
    clear h0
    rcases Nat.eq_zero_or_pos f.length with hf0 | hpos
    · obtain rfl : f = [] := List.eq_nil_of_length_eq_zero hf0
      clear hf0
      replace hc : 1 ≤ c := hc
      rcases Nat.eq_or_lt_of_le hc with rfl | hc1
      · clear hc hl
        go_enter Tryz.func23, Tryz.ntmps23
        go_wp2
        go_ret
        exact ⟨rfl, rfl⟩
      · clear hl
        have hc2 : ¬ c = 1 := by omega
        go_enter Tryz.func23, Tryz.ntmps23
        go_wp2
        go_ret
        exact ⟨rfl, rfl⟩
    have hD := Kd.C_drop (c := c) (m := 1) HR.out (by simp) (by simpa using hc)
    rw [if_neg (by omega)] at hD
    have HD := Aside0.mk (show kByte.C w (some ⟨ad.block, ad.off + 1, none⟩) f.length f from hD); clear hD
    obtain ⟨ad3, e3, t3, _⟩ := Kd.flat_cells (d := kByte) rfl HD.out 0 0 hpos
    cases e3
    have z0 := t3 _ rfl
    simp only [Nat.zero_mul] at z0
    replace z0 : w.cell? ⟨ad.block, ad.off + 1, none⟩ = some (.int .u8 (f.getD 0 0)) := z0
    clear t3
    have hc2 : ¬ c = 1 := by omega
    have p0 : ((f.length : Int) + 1 == 1) = false := beq_false_of_ne (by omega)
    have p1 : decide ((f.length : Int) + 1 = 1) = false := decide_eq_false (by omega)
    generalize hN : f.length = N at p0 p1 hc hl hpos HD ⊢
    have HDL := Aside0.mk hN; clear hN HR HNE
    by_cases hn : 1 ≤ N ∧ N ≤ 9
    · by_cases h48 : f.getD 0 0 = 48
      · have HV := Aside0.mk (show isNum (45 :: f) = false by rw [HI.out]; exact digsOk_zero h48)
        rw [h48] at z0
        have g1 : decide ((N : Int) < 1) = false := decide_eq_false (by omega)
        have g2 : decide (9 < (N : Int)) = false := decide_eq_false (by omega)
        go_enter Tryz.func23, Tryz.ntmps23
        go_wp2
        go_ret
        exact ⟨by rw [HV.out]; rfl, rfl⟩
      · have q48 : (f.getD 0 0 == 48) = false := beq_false_of_ne h48
        have q48d : decide (f.getD 0 0 = 48) = false := decide_eq_false h48
        have H48 := Aside0.mk h48; clear h48
        have g1 : decide ((N : Int) < 1) = false := decide_eq_false (by omega)
        have g2 : decide (9 < (N : Int)) = false := decide_eq_false (by omega)
        generalize hz : f.getD 0 0 = z at z0 q48 q48d
        have HZ := Aside0.mk hz; clear hz
        go_enter Tryz.func23, Tryz.ntmps23
        go_wp2_with fail
        clear q48 q48d z0
        go_loopg [4] (N + 1) (fun q v4 wr => ∃ k : Nat, q = N + 1 - k ∧ k ≤ N ∧ v4 = .int .i64 k ∧ Aside0 (allI k (fun k => inB (f.getD k 0) 48 57) = true) ∧ wr = w)
        case atStart => exact ⟨0, by omega, by omega, rfl, ⟨rfl⟩, rfl⟩
        case round =>
          obtain ⟨k, rfl, hk, rfl, HG, rfl⟩ := hrel
          by_cases hlt : k < N
          · obtain ⟨ad2, e2, t2, _⟩ := Kd.flat_cells (d := kByte) rfl HD.out 0 k hlt
            cases e2
            have y2 := t2 _ rfl
            simp only [Nat.mul_one, Addr.add_lit] at y2
            clear t2
            have hs := allI_succ k (fun k => inB (f.getD k 0) 48 57)
            have hbad := @digsOk_bad f k (by have := HDL.out; omega)
            generalize f.getD k 0 = y at y2 hs hbad
            have HS := Aside0.mk hs; have HBD := Aside0.mk hbad; clear hs hbad
            by_cases hy : 48 ≤ y ∧ y ≤ 57
            · have q1 : decide (y < 48) = false := decide_eq_false (by omega)
              have q2 : decide (57 < y) = false := decide_eq_false (by omega)
              have HY := Aside0.mk (show inB y 48 57 = true by simp only [inB, decide_eq_true hy.1, decide_eq_true hy.2, Bool.and_self]); clear hy
              go_wp2
              go_roundg (N + 1 - (k + 1))
              case measure => omega
              case rel => exact ⟨k + 1, rfl, hlt, by go_num, ⟨by rw [HS.out, HG.out, HY.out]; rfl⟩, rfl⟩
            · have HV := Aside0.mk (show isNum (45 :: f) = false by rw [HI.out]; exact HBD.out (by cases hh : inB y 48 57 with | false => rfl | true => simp only [inB, Bool.and_eq_true, decide_eq_true_eq] at hh; exact absurd hh hy))
              rcases Int.lt_or_le y 48 with h5 | h5
              · have q1 : decide (y < 48) = true := decide_eq_true h5
                clear hy
                go_wp2
                go_ret
                exact ⟨by rw [HV.out]; rfl, rfl⟩
              · have q1 : decide (y < 48) = false := decide_eq_false (by omega)
                have q2 : decide (57 < y) = true := decide_eq_true (by omega)
                clear hy
                go_wp2
                go_ret
                exact ⟨by rw [HV.out]; rfl, rfl⟩
          · have hke : k = N := by omega
            subst hke
            have HV := Aside0.mk (show isNum (45 :: f) = true by rw [HI.out]; exact digsOk_all (by have := HDL.out; omega) H48.out (by rw [HDL.out]; exact HG.out))
            go_wp2
            go_ret
            exact ⟨by rw [HV.out]; rfl, rfl⟩
    · have HV := Aside0.mk (show isNum (45 :: f) = false by rw [HI.out]; exact digsOk_len (by have := HDL.out; omega))
      rcases Nat.lt_or_ge N 1 with h1 | h1
      · have g1 : decide ((N : Int) < 1) = true := decide_eq_true (by omega)
        go_enter Tryz.func23, Tryz.ntmps23
        go_wp2
        go_ret
        exact ⟨by rw [HV.out]; rfl, rfl⟩
      · have g1 : decide ((N : Int) < 1) = false := decide_eq_false (by omega)
        have g2 : decide (9 < (N : Int)) = true := decide_eq_true (by omega)
        go_enter Tryz.func23, Tryz.ntmps23
        go_wp2
        go_ret
        exact ⟨by rw [HV.out]; rfl, rfl⟩
  · have HI := Aside0.mk (show isNum (x :: f) = digsOk (x :: f) by unfold isNum; rw [decide_eq_false HNE.out, Bool.false_or]; unfold numTail; rw [if_neg (show ¬ (x :: f).getD 0 0 = 45 from h45)])
    have p4 : (x == 45) = false := beq_false_of_ne h45
    have p5 : decide (x = 45) = false := decide_eq_false h45
    have HD := HR
    rcases Nat.eq_zero_or_pos f.length with hf0 | hpos
    · obtain rfl : f = [] := List.eq_nil_of_length_eq_zero hf0
      have h48 : ¬ x = 48 := fun h => h0 ⟨rfl, h⟩
      clear hf0 h0 h45 hl
      replace hc : 1 ≤ c := hc
      have HDL := Aside0.mk (show [x].length = 1 from rfl)
      have hn : 1 ≤ 1 ∧ 1 ≤ 9 := by decide
      clear HR HNE
      have q48 : (x == 48) = false := beq_false_of_ne h48
      have q48d : decide (x = 48) = false := decide_eq_false h48
      have H48 := Aside0.mk h48; clear h48
      have g1 : decide ((1 : Int) < 1) = false := decide_eq_false (by omega)
      have g2 : decide (9 < (1 : Int)) = false := decide_eq_false (by omega)
      go_enter Tryz.func23, Tryz.ntmps23
      go_wp2_with fail
      clear q48 q48d y0
      go_loopg [4] (1 + 1) (fun q v4 wr => ∃ k : Nat, q = 1 + 1 - k ∧ k ≤ 1 ∧ v4 = .int .i64 k ∧ Aside0 (allI k (fun k => inB ([x].getD k 0) 48 57) = true) ∧ wr = w)
      case atStart => exact ⟨0, by omega, by omega, rfl, ⟨rfl⟩, rfl⟩
      case round =>
        obtain ⟨k, rfl, hk, rfl, HG, rfl⟩ := hrel
        by_cases hlt : k < 1
        · obtain ⟨ad2, e2, t2, _⟩ := Kd.flat_cells (d := kByte) rfl HD.out 0 k hlt
          cases e2
          have y2 := t2 _ rfl
          simp only [Nat.mul_one] at y2
          clear t2
          have hs := allI_succ k (fun k => inB ([x].getD k 0) 48 57)
          have hbad := @digsOk_bad [x] k (by have := HDL.out; omega)
          generalize [x].getD k 0 = y at y2 hs hbad
          have HS := Aside0.mk hs; have HBD := Aside0.mk hbad; clear hs hbad
          by_cases hy : 48 ≤ y ∧ y ≤ 57
          · have q1 : decide (y < 48) = false := decide_eq_false (by omega)
            have q2 : decide (57 < y) = false := decide_eq_false (by omega)
            have HY := Aside0.mk (show inB y 48 57 = true by simp only [inB, decide_eq_true hy.1, decide_eq_true hy.2, Bool.and_self]); clear hy
            go_wp2
            go_roundg (1 + 1 - (k + 1))
            case measure => omega
            case rel => exact ⟨k + 1, rfl, hlt, by go_num, ⟨by rw [HS.out, HG.out, HY.out]; rfl⟩, rfl⟩
          · have HV := Aside0.mk (show isNum [x] = false by rw [HI.out]; exact HBD.out (by cases hh : inB y 48 57 with | false => rfl | true => simp only [inB, Bool.and_eq_true, decide_eq_true_eq] at hh; exact absurd hh hy))
            rcases Int.lt_or_le y 48 with h5 | h5
            · have q1 : decide (y < 48) = true := decide_eq_true h5
              clear hy
              go_wp2
              go_ret
              exact ⟨by rw [HV.out]; rfl, rfl⟩
            · have q1 : decide (y < 48) = false := decide_eq_false (by omega)
              have q2 : decide (57 < y) = true := decide_eq_true (by omega)
              clear hy
              go_wp2
              go_ret
              exact ⟨by rw [HV.out]; rfl, rfl⟩
        · have hke : k = 1 := by omega
          subst hke
          have HV := Aside0.mk (show isNum [x] = true by rw [HI.out]; exact digsOk_all (by have := HDL.out; omega) H48.out (by rw [HDL.out]; exact HG.out))
          go_wp2
          go_ret
          exact ⟨by rw [HV.out]; rfl, rfl⟩
    · have p0 : ((f.length : Int) + 1 == 1) = false := beq_false_of_ne (by omega)
      have p1 : decide ((f.length : Int) + 1 = 1) = false := decide_eq_false (by omega)
      have HDL := Aside0.mk (show (x :: f).length = f.length + 1 from rfl)
      clear h0 h45
      generalize hN : f.length = N at p0 p1 hc hl hpos HD HDL ⊢
      clear hN HR HNE
      by_cases hn : 1 ≤ (N + 1) ∧ (N + 1) ≤ 9
      · by_cases h48 : x = 48
        · have HV := Aside0.mk (show isNum (x :: f) = false by rw [HI.out]; exact digsOk_zero h48)
          have q8 : (x == 48) = true := by rw [h48]; rfl
          have q8d : decide (x = 48) = true := decide_eq_true h48
          clear h48
          have g1 : decide (((N + 1) : Int) < 1) = false := decide_eq_false (by omega)
          have g2 : decide (9 < ((N + 1) : Int)) = false := decide_eq_false (by omega)
          go_enter Tryz.func23, Tryz.ntmps23
          go_wp2
          go_ret
          exact ⟨by rw [HV.out]; rfl, rfl⟩
        · have q48 : (x == 48) = false := beq_false_of_ne h48
          have q48d : decide (x = 48) = false := decide_eq_false h48
          have H48 := Aside0.mk h48; clear h48
          have g1 : decide (((N + 1) : Int) < 1) = false := decide_eq_false (by omega)
          have g2 : decide (9 < ((N + 1) : Int)) = false := decide_eq_false (by omega)
          go_enter Tryz.func23, Tryz.ntmps23
          go_wp2_with fail
          clear q48 q48d y0
          go_loopg [4] ((N + 1) + 1) (fun q v4 wr => ∃ k : Nat, q = (N + 1) + 1 - k ∧ k ≤ (N + 1) ∧ v4 = .int .i64 k ∧ Aside0 (allI k (fun k => inB ((x :: f).getD k 0) 48 57) = true) ∧ wr = w)
          case atStart => exact ⟨0, by omega, by omega, rfl, ⟨rfl⟩, rfl⟩
          case round =>
            obtain ⟨k, rfl, hk, rfl, HG, rfl⟩ := hrel
            by_cases hlt : k < (N + 1)
            · obtain ⟨ad2, e2, t2, _⟩ := Kd.flat_cells (d := kByte) rfl HD.out 0 k hlt
              cases e2
              have y2 := t2 _ rfl
              simp only [Nat.mul_one] at y2
              clear t2
              have hs := allI_succ k (fun k => inB ((x :: f).getD k 0) 48 57)
              have hbad := @digsOk_bad (x :: f) k (by have := HDL.out; omega)
              generalize (x :: f).getD k 0 = y at y2 hs hbad
              have HS := Aside0.mk hs; have HBD := Aside0.mk hbad; clear hs hbad
              by_cases hy : 48 ≤ y ∧ y ≤ 57
              · have q1 : decide (y < 48) = false := decide_eq_false (by omega)
                have q2 : decide (57 < y) = false := decide_eq_false (by omega)
                have HY := Aside0.mk (show inB y 48 57 = true by simp only [inB, decide_eq_true hy.1, decide_eq_true hy.2, Bool.and_self]); clear hy
                go_wp2
                go_roundg ((N + 1) + 1 - (k + 1))
                case measure => omega
                case rel => exact ⟨k + 1, rfl, hlt, by go_num, ⟨by rw [HS.out, HG.out, HY.out]; rfl⟩, rfl⟩
              · have HV := Aside0.mk (show isNum (x :: f) = false by rw [HI.out]; exact HBD.out (by cases hh : inB y 48 57 with | false => rfl | true => simp only [inB, Bool.and_eq_true, decide_eq_true_eq] at hh; exact absurd hh hy))
                rcases Int.lt_or_le y 48 with h5 | h5
                · have q1 : decide (y < 48) = true := decide_eq_true h5
                  clear hy
                  go_wp2
                  go_ret
                  exact ⟨by rw [HV.out]; rfl, rfl⟩
                · have q1 : decide (y < 48) = false := decide_eq_false (by omega)
                  have q2 : decide (57 < y) = true := decide_eq_true (by omega)
                  clear hy
                  go_wp2
                  go_ret
                  exact ⟨by rw [HV.out]; rfl, rfl⟩
            · have hke : k = (N + 1) := by omega
              subst hke
              have HV := Aside0.mk (show isNum (x :: f) = true by rw [HI.out]; exact digsOk_all (by have := HDL.out; omega) H48.out (by rw [HDL.out]; exact HG.out))
              go_wp2
              go_ret
              exact ⟨by rw [HV.out]; rfl, rfl⟩
      · have HV := Aside0.mk (show isNum (x :: f) = false by rw [HI.out]; exact digsOk_len (by have := HDL.out; omega))
        rcases Nat.lt_or_ge (N + 1) 1 with h1 | h1
        · have g1 : decide (((N + 1) : Int) < 1) = true := decide_eq_true (by omega)
          go_enter Tryz.func23, Tryz.ntmps23
          go_wp2
          go_ret
          exact ⟨by rw [HV.out]; rfl, rfl⟩
        · have g1 : decide (((N + 1) : Int) < 1) = false := decide_eq_false (by omega)
          have g2 : decide (9 < ((N + 1) : Int)) = true := decide_eq_true (by omega)
          go_enter Tryz.func23, Tryz.ntmps23
          go_wp2
          go_ret
          exact ⟨by rw [HV.out]; rfl, rfl⟩
end
end Go.Proofs.YtogjkkbhmanbmaaGreatDoor.L1
namespace Go.Proofs.YtogjkkbhmanbmaaGreatDoor.L1
open Go.RowKit Go.Proofs.YtogjkkbhmanbmaaGreatDoorW.PrintWords Go.Proofs.YtogjkkbhmanbmaaGreatDoor.B
set_option linter.unusedVariables false
set_option linter.unusedSimpArgs false
def isDig (c : Int) : Prop := 48 ≤ c ∧ c ≤ 57
def stepD (a x : Int) : Int := 10 * a + (x - 48)
def digVal (f : List Int) : Int := f.foldl stepD 0
def numVal (f : List Int) : Int := if f.getD 0 0 = 45 then -digVal (f.drop 1) else digVal f
theorem digVal_nil : digVal [] = 0 := rfl
theorem digVal_snoc (f : List Int) (x : Int) : digVal (f ++ [x]) = 10 * digVal f + (x - 48) := by simp [digVal, stepD, List.foldl_append]
theorem snoc_rec {P : List Int → Prop} (h0 : P []) (h1 : ∀ f x, P f → P (f ++ [x])) : ∀ f, P f := fun f => by
  rw [← List.reverse_reverse f]
  generalize f.reverse = g
  induction g with
  | nil => exact h0
  | cons x g ih => rw [List.reverse_cons]; exact h1 _ _ ih
theorem digVal_bd (f : List Int) : (∀ x, x ∈ f → isDig x) → 0 ≤ digVal f ∧ digVal f < 10 ^ f.length := by
  refine snoc_rec (P := fun f => (∀ x, x ∈ f → isDig x) → 0 ≤ digVal f ∧ digVal f < 10 ^ f.length) (fun _ => by simp [digVal]) (fun f x ih h => ?_) f
  obtain ⟨h1, h2⟩ := ih fun y hy => h y (by simp [hy])
  obtain ⟨h3, h4⟩ := h x (by simp)
  rw [digVal_snoc, List.length_append, List.length_singleton, Int.pow_succ]
  omega
theorem digs_mem (z : Nat) : ∀ x, x ∈ digs z → isDig x := by
  induction z using Nat.strongRecOn with
  | _ z ih =>
    intro x hx
    by_cases h : z < 10
    · rw [digs_small h] at hx; simp only [List.mem_singleton] at hx; subst hx; unfold isDig; omega
    · rw [digs_big h, List.mem_append] at hx
      rcases hx with hx | hx
      · exact ih _ (by omega) x hx
      · simp only [List.mem_singleton] at hx; subst hx; unfold isDig; omega
theorem digs_ne (z : Nat) : digs z ≠ [] := by
  by_cases h : z < 10
  · rw [digs_small h]; simp
  · rw [digs_big h]; simp
theorem digVal_digs (z : Nat) : digVal (digs z) = z := by
  induction z using Nat.strongRecOn with
  | _ z ih =>
    by_cases h : z < 10
    · rw [digs_small h]; simp only [digVal, List.foldl, stepD]; omega
    · rw [digs_big h, digVal_snoc, ih _ (by omega)]; omega
theorem head_append {f : List Int} (h : f ≠ []) (g : List Int) : (f ++ g).getD 0 0 = f.getD 0 0 := by
  cases f with
  | nil => exact absurd rfl h
  | cons x f => rfl
theorem digs_head {z : Nat} (hz : 0 < z) : (digs z).getD 0 0 ≠ 48 := by
  induction z using Nat.strongRecOn with
  | _ z ih =>
    by_cases h : z < 10
    · rw [digs_small h]; show ((48 + z : Nat) : Int) ≠ 48; omega
    · rw [digs_big h, head_append (digs_ne _)]; exact ih _ (by omega) (by omega)
theorem digs_of (d : List Int) : (∀ x, x ∈ d → isDig x) → d ≠ [] → d.getD 0 0 ≠ 48 → 1 ≤ digVal d ∧ digs (digVal d).toNat = d := by
  refine snoc_rec (P := fun d => (∀ x, x ∈ d → isDig x) → d ≠ [] → d.getD 0 0 ≠ 48 → 1 ≤ digVal d ∧ digs (digVal d).toNat = d) (fun _ h => absurd rfl h) (fun f x ih h hne h0 => ?_) d
  obtain ⟨h3, h4⟩ := h x (by simp)
  rw [digVal_snoc]
  by_cases hf : f = []
  · subst hf
    have h5 : x ≠ 48 := h0
    rw [digVal_nil]
    refine ⟨by omega, ?_⟩
    rw [digs_small (by omega)]
    show [_] = [x]
    congr 1; omega
  · rw [head_append hf] at h0
    obtain ⟨h5, h6⟩ := ih (fun y hy => h y (by simp [hy])) hf h0
    refine ⟨by omega, ?_⟩
    rw [digs_big (by omega), show (10 * digVal f + (x - 48)).toNat / 10 = (digVal f).toNat by omega, h6]
    congr 2; omega
theorem digs_lt {z : Nat} (h : (digs z).length ≤ 9) : z < 1000000000 := by
  have h1 := (digVal_bd _ (digs_mem z)).2
  rw [digVal_digs] at h1
  have h2 : (10 : Int) ^ (digs z).length ≤ 10 ^ 9 := by
    have := Nat.pow_le_pow_right (n := 10) (by decide) h
    exact_mod_cast this
  have h3 : (10 : Int) ^ 9 = 1000000000 := by decide
  omega
theorem mem_of_all {d : List Int} : allI d.length (fun k => inB (d.getD k 0) 48 57) = true ↔ ∀ x, x ∈ d → isDig x := by
  rw [allI_iff]
  constructor
  · intro h x hx
    obtain ⟨k, hk, rfl⟩ := List.getElem_of_mem hx
    have := h k hk
    rw [List.getD_eq_getElem?_getD, List.getElem?_eq_getElem hk] at this
    simp only [inB, Bool.and_eq_true, decide_eq_true_eq, Option.getD_some] at this
    exact this
  · intro h k hk
    have := h (d.getD k 0) (by rw [List.getD_eq_getElem?_getD, List.getElem?_eq_getElem hk]; exact List.getElem_mem _)
    simp only [inB, Bool.and_eq_true, decide_eq_true_eq]; exact this
theorem digsOk_iff (d : List Int) : digsOk d = true ↔ (1 ≤ d.length ∧ d.length ≤ 9) ∧ d.getD 0 0 ≠ 48 ∧ ∀ x, x ∈ d → isDig x := by
  rw [← mem_of_all]; simp only [digsOk, Bool.and_eq_true, decide_eq_true_eq, and_assoc]
theorem digs_ok {z : Nat} (h0 : 0 < z) (h : (digs z).length ≤ 9) : digsOk (digs z) = true :=
  (digsOk_iff _).2 ⟨⟨List.length_pos_iff.2 (digs_ne z), h⟩, digs_head h0, digs_mem z⟩
theorem digs_first (z : Nat) : 48 ≤ (digs z).getD 0 0 := by
  have := digs_ne z
  have h := digs_mem z ((digs z).getD 0 0) (by
    cases hd : digs z with
    | nil => exact absurd hd this
    | cons x f => simp)
  exact h.1
/-- The numerals are the decimal words of the numbers of at most nine digits. -/
theorem isNum_dec {f : List Int} (h : isNum f = true) : f = dec (numVal f) ∧ (numTail f).length ≤ 9 := by
  unfold isNum at h
  rw [Bool.or_eq_true, decide_eq_true_eq] at h
  rcases h with rfl | h
  · exact ⟨by show _ = digs 0; rw [digs_small (by decide)]; rfl, by decide⟩
  · obtain ⟨⟨h1, h2⟩, h3, h4⟩ := (digsOk_iff _).1 h
    refine ⟨?_, h2⟩
    unfold numVal
    unfold numTail at h1 h2 h3 h4
    have hne : ∀ d : List Int, 1 ≤ d.length → d ≠ [] := fun d hd he => by subst he; simp at hd
    by_cases h45 : f.getD 0 0 = 45
    · rw [if_pos h45] at h1 h2 h3 h4 ⊢
      obtain ⟨h5, h6⟩ := digs_of _ h4 (hne _ h1) h3
      unfold dec
      rw [if_pos (by omega), Int.neg_neg, h6]
      cases f with
      | nil => simp at h45
      | cons x f => have : x = 45 := h45; subst this; rfl
    · rw [if_neg h45] at h1 h2 h3 h4 ⊢
      obtain ⟨h5, h6⟩ := digs_of _ h4 (hne _ h1) h3
      unfold dec
      rw [if_neg (by omega), h6]
theorem dec_isNum {v : Int} (h : (numTail (dec v)).length ≤ 9) : isNum (dec v) = true ∧ numVal (dec v) = v := by
  unfold dec at h ⊢
  by_cases hv : v < 0
  · rw [if_pos hv] at h ⊢
    refine ⟨?_, ?_⟩
    · unfold isNum; rw [Bool.or_eq_true]; right; exact digs_ok (by omega) h
    · show -digVal (digs _) = _; rw [digVal_digs]; omega
  · rw [if_neg hv] at h ⊢
    have h0 := digs_first v.toNat
    have h1 : ¬ (digs v.toNat).getD 0 0 = 45 := by omega
    unfold numTail at h
    rw [if_neg h1] at h
    refine ⟨?_, ?_⟩
    · unfold isNum; rw [Bool.or_eq_true]
      by_cases hz : v = 0
      · left; subst hz; exact decide_eq_true (by rw [show Int.toNat 0 = 0 from rfl, digs_small (by decide)]; rfl)
      · right; unfold numTail; rw [if_neg h1]; exact digs_ok (by omega) h
    · unfold numVal; rw [if_neg h1, digVal_digs]; omega
theorem numVal_bd {f : List Int} (h : isNum f = true) : -1000000000 < numVal f ∧ numVal f < 1000000000 := by
  obtain ⟨h1, h2⟩ := isNum_dec h
  generalize numVal f = v at h1
  subst h1
  unfold numTail dec at h2
  by_cases hv : v < 0
  · rw [if_pos hv] at h2
    have := digs_lt (z := (-v).toNat) h2
    omega
  · rw [if_neg hv] at h2
    have h0 := digs_first v.toNat
    rw [if_neg (by omega)] at h2
    have := digs_lt h2
    omega
def stepU (a : Nat) (c : UInt8) : Nat := a * 10 + (c.toNat - 48)
theorem parseU : ∀ (l : List UInt8) (k acc : Nat), acc < 10 ^ k → k + l.length ≤ 18 → (∀ c, c ∈ l → 48 ≤ c.toNat ∧ c.toNat ≤ 57) → Lib.parseUintM (2 ^ 64 - 1) acc l = .ok (l.foldl stepU acc)
  | [], _, _, _, _, _ => rfl
  | c :: l, k, acc, ha, hk, h => by
    obtain ⟨h1, h2⟩ := h c (by simp)
    have h3 : acc * 10 + (c.toNat - 48) < 10 ^ (k + 1) := by rw [Nat.pow_succ]; omega
    have h4 : 10 ^ (k + 1) ≤ 10 ^ 18 := Nat.pow_le_pow_right (by decide) (by rw [List.length_cons] at hk; omega)
    have h5 : (10 : Nat) ^ 18 = 1000000000000000000 := by decide
    have h6 : (2 : Nat) ^ 64 - 1 = 18446744073709551615 := by decide
    unfold Lib.parseUintM
    rw [if_pos ⟨h1, h2⟩, if_neg (by omega), if_neg (by omega)]
    exact parseU l (k + 1) _ h3 (by rw [List.length_cons] at hk; omega) fun c hc => h c (by simp [hc])
theorem fold_val : ∀ (l : List UInt8) (acc : Nat), (∀ c, c ∈ l → 48 ≤ c.toNat ∧ c.toNat ≤ 57) → (ofU l).foldl stepD acc = ((l.foldl stepU acc : Nat) : Int)
  | [], _, _ => rfl
  | c :: l, acc, h => by
    obtain ⟨h1, h2⟩ := h c (by simp)
    show List.foldl stepD (stepD acc c.toNat) (ofU l) = _
    rw [show stepD acc c.toNat = ((stepU acc c : Nat) : Int) by unfold stepD stepU; omega]
    exact fold_val l _ fun c hc => h c (by simp [hc])
theorem parse_dec {l : List UInt8} (h : isNum (ofU l) = true) : Lib.parseIntB 64 l = .ok (numVal (ofU l)) := by
  have hb := numVal_bd h
  obtain ⟨h1, h2⟩ := isNum_dec h
  have hdig : ∀ m : List UInt8, (∀ x, x ∈ ofU m → isDig x) → ∀ c, c ∈ m → 48 ≤ c.toNat ∧ c.toNat ≤ 57 := fun m hm c hc => by
    have := hm (c.toNat : Int) (List.mem_map.2 ⟨c, hc, rfl⟩)
    unfold isDig at this; omega
  have hd : ∀ m : List UInt8, m ≠ [] → m.length ≤ 9 → (∀ x, x ∈ ofU m → isDig x) → Lib.parseUintB 64 m = .ok (digVal (ofU m)).toNat := fun m hm hl hx => by
    unfold Lib.parseUintB
    rw [if_neg hm, parseU m 0 0 (by decide) (by omega) (hdig m hx)]
    have := fold_val m 0 (hdig m hx)
    congr 1
    unfold digVal
    rw [show ((0 : Int)) = ((0 : Nat) : Int) from rfl, this]; rfl
  have hall : ∀ x, x ∈ numTail (ofU l) → isDig x := by
    unfold isNum at h
    rw [Bool.or_eq_true, decide_eq_true_eq] at h
    rcases h with h | h
    · rw [h]; intro x hx; have : x = 48 := by simpa [numTail] using hx
      subst this; unfold isDig; omega
    · exact ((digsOk_iff _).1 h).2.2
  have hne : numTail (ofU l) ≠ [] := by
    unfold isNum at h
    rw [Bool.or_eq_true, decide_eq_true_eq] at h
    rcases h with h | h
    · rw [h]; decide
    · intro he; have := ((digsOk_iff _).1 h).1.1; rw [he] at this; simp at this
  unfold numVal at hb ⊢
  cases l with
  | nil => exact absurd rfl hne
  | cons c r =>
    unfold numTail at h2 hall hne
    have e0 : (ofU (c :: r)).getD 0 0 = (c.toNat : Int) := rfl
    rw [e0] at hb h2 hall hne ⊢
    have e1 : (ofU (c :: r)).drop 1 = ofU r := rfl
    rw [e1] at hb h2 hall hne ⊢
    by_cases h45 : c.toNat = 45
    · rw [if_pos (by omega)] at hb h2 hall hne ⊢
      have hr : r ≠ [] := fun he => hne (by rw [he]; rfl)
      have hv := (digVal_bd _ hall).1
      have hu := hd r hr (by simpa [ofU] using h2) hall
      unfold Lib.parseIntB
      dsimp only
      rw [if_pos (Or.inr h45), hu]
      dsimp only
      rw [if_neg (by omega), if_neg (by rintro ⟨_, h⟩; simp at h; omega), if_pos h45]
      congr 1; omega
    · rw [if_neg (by omega)] at hb h2 hall hne ⊢
      have hv := (digVal_bd _ hall).1
      have hu := hd (c :: r) (by simp) (by simpa [ofU] using h2) hall
      have h43 : ¬ c.toNat = 43 := by have := hdig _ hall c (by simp); omega
      unfold Lib.parseIntB
      dsimp only
      rw [if_neg (by omega), hu]
      dsimp only
      rw [if_neg (by rintro ⟨_, h⟩; simp at h; omega), if_neg (by rintro ⟨h, _⟩; exact h45 h), if_neg h45]
      congr 1; omega
end Go.Proofs.YtogjkkbhmanbmaaGreatDoor.L1
