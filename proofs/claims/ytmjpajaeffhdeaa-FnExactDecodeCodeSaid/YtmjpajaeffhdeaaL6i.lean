/- The state of the program's DecodeCode. -/
import Derived.Test.YtmjpajaeffhdeaaL6f
namespace Go.Proofs.Ytmjpajaeffhdeaa.L1
open Go.RowKit Go.Proofs.YtmjpajaeffhdeaaW.PrintWords Go.Proofs.YtmjpajaeffhdeaaW.PrintLast Go.Proofs.Ytmjpajaeffhdeaa.B
set_option linter.unusedVariables false
set_option linter.unusedSimpArgs false
attribute [local go_sem] mk_cell mk_frozen
/-- The reader in block g: what is left to read, is it bad. -/
def Rd (A0 : Option Addr) (bs0 : List Int) (W : World) (g : Nat) (bad : Bool) (rest : List Int) : Prop := ∃ (A' : Option Addr) (c' : Nat), W.heap[g]? = some (.cells #[.slice A' rest.length c', .bool bad] 92 (0, 0)) ∧
  (∀ U : World, kByte.C U A0 bs0.length bs0 → kByte.C U A' rest.length rest) ∧ rest.length ≤ c' ∧ ∀ b, b ∈ rest → 0 ≤ b ∧ b < 256
theorem Rd.keep {A0 : Option Addr} {bs0 : List Int} {W W1 : World} {g : Nat} {bad : Bool} {rest : List Int} (h : Rd A0 bs0 W g bad rest) (hb : W1.heap[g]? = W.heap[g]?) : Rd A0 bs0 W1 g bad rest := by
  obtain ⟨A', c', h1, h2, h3, h4⟩ := h
  exact ⟨A', c', hb.trans h1, h2, h3, h4⟩
theorem Rd.lt {A0 : Option Addr} {bs0 : List Int} {W : World} {g : Nat} {bad : Bool} {rest : List Int} (h : Rd A0 bs0 W g bad rest) : g < W.heap.size := by
  obtain ⟨A', c', h1, _⟩ := h; exact blk_lt h1
theorem rd_number (A0 : Option Addr) (bs0 : List Int) (W : World) (g : Nat) (bad : Bool) (rest : List Int) (hC : kByte.C W A0 bs0.length bs0) (h : Rd A0 bs0 W g bad rest) :
    Calls Try.prog 68 #[.pointer (some ⟨g, 0, none⟩)] W fun e w' => ∃ (m : Int) (bad' : Bool) (rest' : List Int), e = .returned (.int .i64 m) ∧ Rd A0 bs0 w' g bad' rest' ∧ NumOk rest bad bad' m rest' ∧ W.grownBy w' (some g) ∧ w'.heap.size = W.heap.size := by
  obtain ⟨A', c', h1, h2, h3, h4⟩ := h
  refine (impl_number W g A' c' rest bad h1 (h2 W hC) h3 h4).mono ?_
  rintro e w' ⟨m, A'', c'', rest', bad', rfl, k1, k2, k3, k4, k5, k6, k7⟩
  exact ⟨m, bad', rest', rfl, ⟨A'', c'', k1, fun U hU => k2 U (h2 U hU), k3, fun b hb => h4 b (k4 b hb)⟩, k7, k5, k6⟩
theorem grown_below {w W w1 : World} {g : Nat} (h : Below w.heap.size w W) (hg : W.grownBy w1 (some g)) (hlt : w.heap.size ≤ g) : Below w.heap.size w w1 :=
  pw_below_grown h (some g) h.size hg (fun k hk => by cases hk; exact hlt)
theorem rowsFrom_succ (ns : List Int) (i m : Nat) : rowsFrom ns i (m + 1) = rowsFrom ns i m ++ [insAt ns (i + 4 * m)] := by simp [rowsFrom, List.range_succ]
theorem rowsFrom_len (ns : List Int) (i m : Nat) : (rowsFrom ns i m).length = m := by simp [rowsFrom]
theorem insAt_pre {xs ms : List Int} {i : Nat} (h : i + 4 ≤ xs.length) : insAt (xs ++ ms) i = insAt xs i := by
  unfold insAt; rw [getD_pre (by omega), getD_pre (by omega), getD_pre (by omega), getD_pre (by omega)]
theorem rowsFrom_pre {xs ms : List Int} {i m : Nat} (h : i + 4 * m ≤ xs.length) : rowsFrom (xs ++ ms) i m = rowsFrom xs i m :=
  List.map_congr_left fun k hk => insAt_pre (by have := List.mem_range.1 hk; omega)
theorem insAt_end {xs : List Int} {i : Nat} (a b c d : Int) (h : i = xs.length) : insAt (xs ++ [a, b, c, d]) i = ⟨a, b, c, d⟩ := by
  subst h; unfold insAt
  have e : ∀ k, (xs ++ [a, b, c, d]).getD (xs.length + k) 0 = [a, b, c, d].getD k 0 := fun k => by
    rw [List.getD_eq_getElem?_getD, List.getElem?_append_right (by omega), List.getD_eq_getElem?_getD]; congr 2; omega
  rw [show xs.length = xs.length + 0 from rfl, e 0, e 1, e 2, e 3]; rfl
theorem rowsFrom_end {xs : List Int} {i m : Nat} (a b c d : Int) (h : i + 4 * m = xs.length) : rowsFrom (xs ++ [a, b, c, d]) i (m + 1) = rowsFrom xs i m ++ [⟨a, b, c, d⟩] := by
  rw [rowsFrom_succ, rowsFrom_pre (by omega), insAt_end a b c d h]
theorem kIns_tight {e base : Nat} {W : World} {ok : Nat → Prop} {v : Value} {xs : List Ins} (h : kIns.R e W base ok v xs) : kIns.R e W base (fun k => v.ownBlock = some k) v xs := ⟨fun k hk => hk, h.2⟩
theorem kIns_ok {e base : Nat} {W : World} {ok ok' : Nat → Prop} {v : Value} {xs : List Ins} (h : kIns.R e W base ok v xs) (hok : ∀ k, v.ownBlock = some k → ok' k) : kIns.R e W base ok' v xs := ⟨hok, h.2⟩
theorem kIns_step {e base : Nat} {W W1 : World} {ok : Nat → Prop} {v : Value} {xs : List Ins} (h : kIns.R e W base ok v xs) (hs : ∀ k, ok k → base ≤ k → k < W.heap.size → W1.heap[k]? = W.heap[k]?) : kIns.R e W1 base ok v xs :=
  Kd.R_mono (Kd.R_step (Kd.R_bound h) (fun k hk _ => hs k hk.1 hk.2.1 hk.2.2.1)) (fun k hk => hk.1)
theorem kIns_set {e base : Nat} {W : World} {ok : Nat → Prop} {v : Value} {xs : List Ins} (h : kIns.R e W base ok v xs) {b o : Nat} (hb : b < base) (u : Value) : kIns.R e (W.setCell ⟨b, o, none⟩ u) base ok v xs :=
  kIns_step h (fun k _ h2 _ => Below.heap_setCell W ⟨b, o, none⟩ u k (by show k ≠ b; omega))
theorem kIns_in {e base : Nat} {W : World} {ok : Nat → Prop} {v : Value} {xs : List Ins} (h : kIns.R e W base ok v xs) {k : Nat} (hk : v.ownBlock = some k) : ok k ∧ base ≤ k ∧ k < W.heap.size := by
  have h1 := (Kd.R_bound h).1 k hk
  exact ⟨h1.1, h1.2.1, h1.2.2.1⟩
structure DSt (w : World) (A0 : Option Addr) (bs : List Int) (g p : Nat) (m0 m1 a0 a1 a2 : Int) (W : World) (bad : Bool) (rest xs : List Int) (s0 s1 s2 : Value) (r0 r1 r2 : List Ins) (c1 c2 : Nat) : Prop where
  rd : Rd A0 bs W (w.heap.size + 1) bad rest
  st : RdState bs xs bad rest
  bel : Below w.heap.size w W
  zero : W.heap[w.heap.size]? = some (.cells #[.int .i64 0, .int .i64 0, .slice none 0 0, .slice none 0 0, .slice none 0 0] 32)
  len : W.heap[g + 1]? = some (.cells #[.int .i64 a0, .int .i64 a1, .int .i64 a2] 94)
  ptr : W.heap[p]? = some (.cells #[.pointer (some ⟨g, 2, none⟩), .pointer (some ⟨g, 3, none⟩), .pointer (some ⟨g, 4, none⟩)] 95)
  code : W.heap[g]? = some (.cells #[.int .i64 m0, .int .i64 m1, s0, s1, s2] 32)
  hg : w.heap.size + 1 < g
  hp : g + 1 < p
  c12 : c1 ≤ c2
  cw : c2 ≤ W.heap.size
  row0 : kIns.R 81 W (p + 1) (fun b => b < c1) s0 r0
  row1 : kIns.R 81 W (p + 1) (fun b => c1 ≤ b ∧ b < c2) s1 r1
  row2 : kIns.R 81 W (p + 1) (fun b => c2 ≤ b) s2 r2
section
variable {w W W1 : World} {A0 : Option Addr} {bs : List Int} {g p : Nat} {m0 m1 a0 a1 a2 : Int} {bad : Bool} {rest xs : List Int} {s0 s1 s2 : Value} {r0 r1 r2 : List Ins} {c1 c2 : Nat}
theorem DSt.sz (h : DSt w A0 bs g p m0 m1 a0 a1 a2 W bad rest xs s0 s1 s2 r0 r1 r2 c1 c2) : p + 1 ≤ W.heap.size := blk_lt h.ptr
theorem DSt.below (h : DSt w A0 bs g p m0 m1 a0 a1 a2 W bad rest xs s0 s1 s2 r0 r1 r2 c1 c2) (hb : Below W.heap.size W W1) : DSt w A0 bs g p m0 m1 a0 a1 a2 W1 bad rest xs s0 s1 s2 r0 r1 r2 c1 c2 :=
  ⟨h.rd.keep (hb.block _ h.rd.lt), h.st, bel_call h.bel hb, blk_below h.zero hb, blk_below h.len hb, blk_below h.ptr hb, blk_below h.code hb, h.hg, h.hp, h.c12, Nat.le_trans h.cw hb.size, Kd.R_below h.row0 hb, Kd.R_below h.row1 hb, Kd.R_below h.row2 hb⟩
/-- A number is read. -/
theorem DSt.number {b5 : Bool} {q5 : List Int} {m : Int} {bad' : Bool} {rest' : List Int} (h : DSt w A0 bs g p m0 m1 a0 a1 a2 W bad rest xs s0 s1 s2 r0 r1 r2 c1 c2) (H5 : RdState bs [m0, m1, a0, a1, a2] b5 q5) (hx : ((xs.length + 1 : Nat) : Int) ≤ 5 + 4 * (a0 + a1 + a2))
    (hd : Rd A0 bs W1 (w.heap.size + 1) bad' rest') (hn : NumOk rest bad bad' m rest') (hg : W.grownBy W1 (some (w.heap.size + 1))) (hs : W1.heap.size = W.heap.size) : DSt w A0 bs g p m0 m1 a0 a1 a2 W1 bad' rest' (xs ++ [m]) s0 s1 s2 r0 r1 r2 c1 c2 := by
  have hg1 := h.hg; have hp1 := h.hp
  refine ⟨hd, h.st.num hn (fun hz => ?_), grown_below h.bel hg (by omega), blk_grown h.zero hg (by simp), blk_grown h.len hg (by intro h; injection h with h; omega), blk_grown h.ptr hg (by intro h; injection h with h; omega), blk_grown h.code hg (by intro h; injection h with h; omega), h.hg, h.hp, h.c12, by rw [hs]; exact h.cw,
    kIns_step h.row0 (fun k _ h2 h3 => hg.block k h3 (by intro h; injection h with h; omega)), kIns_step h.row1 (fun k _ h2 h3 => hg.block k h3 (by intro h; injection h with h; omega)), kIns_step h.row2 (fun k _ h2 h3 => hg.block k h3 (by intro h; injection h with h; omega))⟩
  cases b5 with
  | true => exact H5.2 rfl
  | false => exact decode_more (H5.1 rfl) hz (by simpa using hx)
theorem DSt.boxes (h : DSt w A0 bs g p m0 m1 a0 a1 a2 W bad rest xs s0 s1 s2 r0 r1 r2 c1 c2) (hb : Below (p + 1) W W1) (i : Nat) (v : Value) {k : Nat} (hk : k < p + 1) (hne : k ≠ g) : (W1.setCell ⟨g, i, none⟩ v).heap[k]? = W.heap[k]? := by
  rw [Below.heap_setCell W1 ⟨g, i, none⟩ v k hne]
  exact hb.block k hk
theorem DSt.bel1 (h : DSt w A0 bs g p m0 m1 a0 a1 a2 W bad rest xs s0 s1 s2 r0 r1 r2 c1 c2) (hb : Below (p + 1) W W1) (i : Nat) (v : Value) : Below w.heap.size w (W1.setCell ⟨g, i, none⟩ v) := by
  have hg1 := h.hg; have hp1 := h.hp
  exact bel_set (h.bel.trans (hb.mono (by omega))) (by omega) v
theorem DSt.app0 {v : Value} {ys : List Ins} (h : DSt w A0 bs g p m0 m1 a0 a1 a2 W bad rest xs s0 (.slice none 0 0) (.slice none 0 0) r0 [] [] c1 c2)
    (hr : kIns.R 81 W1 (p + 1) (fun _ => True) v ys) (hb : Below (p + 1) W W1) (hg : W.grownBy W1 s0.ownBlock) (hat : v.ownBlock = s0.ownBlock ∨ ∃ b, v.ownBlock = some b ∧ W.heap.size ≤ b) :
    DSt w A0 bs g p m0 m1 a0 a1 a2 (W1.setCell ⟨g, 2, none⟩ v) bad rest xs v (.slice none 0 0) (.slice none 0 0) ys [] [] W1.heap.size W1.heap.size := by
  have hg1 := h.hg; have hp1 := h.hp
  have hz : (W1.setCell ⟨g, 2, none⟩ v).heap.size = W1.heap.size := World.size_setCell _ _ _
  refine ⟨h.rd.keep (h.boxes hb _ _ (by omega) (by omega)), h.st, h.bel1 hb _ _, (h.boxes hb _ _ (by omega) (by omega)).trans h.zero, (h.boxes hb _ _ (by omega) (by omega)).trans h.len, (h.boxes hb _ _ (by omega) (by omega)).trans h.ptr, ?_, h.hg, h.hp, Nat.le_refl _, by rw [hz]; exact Nat.le_refl _, ?_, Kd.R_nil _ _ _ _ _, Kd.R_nil _ _ _ _ _⟩
  · have hc := blk_set ((hb.block g (by omega)).trans h.code) 2 v
    simpa using hc
  · refine kIns_step (kIns_ok hr (fun k hk => (kIns_in hr hk).2.2)) (fun k h1 h2 h3 => Below.heap_setCell W1 ⟨g, 2, none⟩ v k (by show k ≠ g; omega))
theorem DSt.app1 {v : Value} {ys : List Ins} (h : DSt w A0 bs g p m0 m1 a0 a1 a2 W bad rest xs s0 s1 (.slice none 0 0) r0 r1 [] c1 c2)
    (hr : kIns.R 81 W1 (p + 1) (fun _ => True) v ys) (hb : Below (p + 1) W W1) (hg : W.grownBy W1 s1.ownBlock) (hat : v.ownBlock = s1.ownBlock ∨ ∃ b, v.ownBlock = some b ∧ W.heap.size ≤ b) (hsz : W.heap.size ≤ W1.heap.size) :
    DSt w A0 bs g p m0 m1 a0 a1 a2 (W1.setCell ⟨g, 3, none⟩ v) bad rest xs s0 v (.slice none 0 0) r0 ys [] c1 W1.heap.size := by
  have hg1 := h.hg; have hp1 := h.hp; have hc1 := h.c12; have hc2 := h.cw
  have hz : (W1.setCell ⟨g, 3, none⟩ v).heap.size = W1.heap.size := World.size_setCell _ _ _
  refine ⟨h.rd.keep (h.boxes hb _ _ (by omega) (by omega)), h.st, h.bel1 hb _ _, (h.boxes hb _ _ (by omega) (by omega)).trans h.zero, (h.boxes hb _ _ (by omega) (by omega)).trans h.len, (h.boxes hb _ _ (by omega) (by omega)).trans h.ptr, ?_, h.hg, h.hp, by omega, by rw [hz]; exact Nat.le_refl _, ?_, ?_, Kd.R_nil _ _ _ _ _⟩
  · have hc := blk_set ((hb.block g (by omega)).trans h.code) 3 v
    simpa using hc
  · refine kIns_step h.row0 (fun k h1 h2 h3 => (Below.heap_setCell W1 ⟨g, 3, none⟩ v k (by show k ≠ g; omega)).trans (hg.block k h3 (fun e => ?_)))
    have := (kIns_in h.row1 e.symm).1.1; omega
  · refine kIns_step (kIns_ok hr (fun k hk => ⟨?_, (kIns_in hr hk).2.2⟩)) (fun k h1 h2 h3 => Below.heap_setCell W1 ⟨g, 3, none⟩ v k (by show k ≠ g; omega))
    rcases hat with e | ⟨b, e, hb1⟩
    · exact (kIns_in h.row1 (e.symm.trans hk)).1.1
    · rw [e] at hk; injection hk with hk; omega
theorem DSt.app2 {v : Value} {ys : List Ins} (h : DSt w A0 bs g p m0 m1 a0 a1 a2 W bad rest xs s0 s1 s2 r0 r1 r2 c1 c2)
    (hr : kIns.R 81 W1 (p + 1) (fun _ => True) v ys) (hb : Below (p + 1) W W1) (hg : W.grownBy W1 s2.ownBlock) (hat : v.ownBlock = s2.ownBlock ∨ ∃ b, v.ownBlock = some b ∧ W.heap.size ≤ b) (hsz : W.heap.size ≤ W1.heap.size) :
    DSt w A0 bs g p m0 m1 a0 a1 a2 (W1.setCell ⟨g, 4, none⟩ v) bad rest xs s0 s1 v r0 r1 ys c1 c2 := by
  have hg1 := h.hg; have hp1 := h.hp; have hc1 := h.c12; have hc2 := h.cw
  have hz : (W1.setCell ⟨g, 4, none⟩ v).heap.size = W1.heap.size := World.size_setCell _ _ _
  refine ⟨h.rd.keep (h.boxes hb _ _ (by omega) (by omega)), h.st, h.bel1 hb _ _, (h.boxes hb _ _ (by omega) (by omega)).trans h.zero, (h.boxes hb _ _ (by omega) (by omega)).trans h.len, (h.boxes hb _ _ (by omega) (by omega)).trans h.ptr, ?_, h.hg, h.hp, by omega, by rw [hz]; omega, ?_, ?_, ?_⟩
  · have hc := blk_set ((hb.block g (by omega)).trans h.code) 4 v
    simpa using hc
  · refine kIns_step h.row0 (fun k h1 h2 h3 => (Below.heap_setCell W1 ⟨g, 4, none⟩ v k (by show k ≠ g; omega)).trans (hg.block k h3 (fun e => ?_)))
    have := (kIns_in h.row2 e.symm).1; omega
  · refine kIns_step h.row1 (fun k h1 h2 h3 => (Below.heap_setCell W1 ⟨g, 4, none⟩ v k (by show k ≠ g; omega)).trans (hg.block k h3 (fun e => ?_)))
    have := (kIns_in h.row2 e.symm).1; omega
  · refine kIns_step (kIns_ok hr (fun k hk => ?_)) (fun k h1 h2 h3 => Below.heap_setCell W1 ⟨g, 4, none⟩ v k (by show k ≠ g; omega))
    rcases hat with e | ⟨b, e, hb1⟩
    · exact (kIns_in h.row2 (e.symm.trans hk)).1
    · rw [e] at hk; injection hk with hk; omega
theorem DSt.own (h : DSt w A0 bs g p m0 m1 a0 a1 a2 W bad rest xs s0 s1 s2 r0 r1 r2 c1 c2) : OwnCode W w.heap.size (.agg #[.int .i64 m0, .int .i64 m1, s0, s1, s2]) ⟨m0, m1, r0, r1, r2⟩ := by
  have hg1 := h.hg; have hp1 := h.hp
  exact ⟨s0, s1, s2, c1, c2, rfl, h.c12, Kd.R_lower h.row0 (by omega), Kd.R_lower h.row1 (by omega), Kd.R_lower h.row2 (by omega)⟩
end
/-- The rows read so far out of the numbers so far. -/
structure Sg (m0 m1 a0 a1 a2 : Int) (b5 bb : Bool) (xs : List Int) (r0 r1 r2 : List Ins) (n0 n1 n2 : Nat) : Prop where
  good : bb = false → b5 = false
  len : xs.length = 5 + 4 * (n0 + n1 + n2)
  hd : ∃ zs, xs = m0 :: m1 :: a0 :: a1 :: a2 :: zs
  rows : bb = false → r0 = rowsFrom xs 5 n0 ∧ r1 = rowsFrom xs (5 + 4 * n0) n1 ∧ r2 = rowsFrom xs (5 + 4 * (n0 + n1)) n2
section
variable {m0 m1 a0 a1 a2 : Int} {b5 : Bool} {xs : List Int} {r0 r1 r2 : List Ins} {n0 n1 n2 : Nat}
theorem Sg.start : Sg m0 m1 a0 a1 a2 b5 b5 [m0, m1, a0, a1, a2] [] [] [] 0 0 0 := ⟨fun h => h, rfl, ⟨[], rfl⟩, fun _ => ⟨rfl, rfl, rfl⟩⟩
theorem Sg.rlen0 {bb : Bool} (h : Sg m0 m1 a0 a1 a2 b5 bb xs r0 r1 r2 n0 n1 n2) (hb : bb = false) : r0.length = n0 := by rw [(h.rows hb).1, rowsFrom_len]
theorem Sg.rlen1 {bb : Bool} (h : Sg m0 m1 a0 a1 a2 b5 bb xs r0 r1 r2 n0 n1 n2) (hb : bb = false) : r1.length = n1 := by rw [(h.rows hb).2.1, rowsFrom_len]
theorem Sg.rlen2 {bb : Bool} (h : Sg m0 m1 a0 a1 a2 b5 bb xs r0 r1 r2 n0 n1 n2) (hb : bb = false) : r2.length = n2 := by rw [(h.rows hb).2.2, rowsFrom_len]
theorem four_app (y0 y1 y2 y3 : Int) : xs ++ [y0] ++ [y1] ++ [y2] ++ [y3] = xs ++ [y0, y1, y2, y3] := by simp
theorem Sg.push0 (h : Sg m0 m1 a0 a1 a2 b5 false xs r0 [] [] n0 0 0) (b3 : Bool) (y0 y1 y2 y3 : Int) : Sg m0 m1 a0 a1 a2 b5 b3 (xs ++ [y0] ++ [y1] ++ [y2] ++ [y3]) (r0 ++ [⟨y0, y1, y2, y3⟩]) [] [] (n0 + 1) 0 0 := by
  have hl := h.len
  obtain ⟨zs, hz⟩ := h.hd
  rw [four_app]
  refine ⟨fun _ => h.good rfl, by simp only [List.length_append, List.length_cons, List.length_nil]; omega, ⟨zs ++ [y0, y1, y2, y3], by rw [hz]; rfl⟩, fun _ => ⟨?_, rfl, rfl⟩⟩
  rw [rowsFrom_end _ _ _ _ (by omega), ← (h.rows rfl).1]
theorem Sg.push1 (h : Sg m0 m1 a0 a1 a2 b5 false xs r0 r1 [] n0 n1 0) (b3 : Bool) (y0 y1 y2 y3 : Int) : Sg m0 m1 a0 a1 a2 b5 b3 (xs ++ [y0] ++ [y1] ++ [y2] ++ [y3]) r0 (r1 ++ [⟨y0, y1, y2, y3⟩]) [] n0 (n1 + 1) 0 := by
  have hl := h.len
  obtain ⟨zs, hz⟩ := h.hd
  rw [four_app]
  refine ⟨fun _ => h.good rfl, by simp only [List.length_append, List.length_cons, List.length_nil]; omega, ⟨zs ++ [y0, y1, y2, y3], by rw [hz]; rfl⟩, fun _ => ⟨?_, ?_, rfl⟩⟩
  · rw [rowsFrom_pre (by omega), ← (h.rows rfl).1]
  · rw [rowsFrom_end _ _ _ _ (by omega), ← (h.rows rfl).2.1]
theorem Sg.push2 (h : Sg m0 m1 a0 a1 a2 b5 false xs r0 r1 r2 n0 n1 n2) (b3 : Bool) (y0 y1 y2 y3 : Int) : Sg m0 m1 a0 a1 a2 b5 b3 (xs ++ [y0] ++ [y1] ++ [y2] ++ [y3]) r0 r1 (r2 ++ [⟨y0, y1, y2, y3⟩]) n0 n1 (n2 + 1) := by
  have hl := h.len
  obtain ⟨zs, hz⟩ := h.hd
  rw [four_app]
  refine ⟨fun _ => h.good rfl, by simp only [List.length_append, List.length_cons, List.length_nil]; omega, ⟨zs ++ [y0, y1, y2, y3], by rw [hz]; rfl⟩, fun _ => ⟨?_, ?_, ?_⟩⟩
  · rw [rowsFrom_pre (by omega), ← (h.rows rfl).1]
  · rw [rowsFrom_pre (by omega), ← (h.rows rfl).2.1]
  · rw [rowsFrom_end _ _ _ _ (by omega), ← (h.rows rfl).2.2]
/-- All is read and nothing is left: it is the code of the numbers. -/
theorem Sg.done (h : Sg m0 m1 a0 a1 a2 b5 false xs r0 r1 r2 n0 n1 n2) (e0 : (n0 : Int) = a0) (e1 : (n1 : Int) = a1) (e2 : (n2 : Int) = a2) : nsCode xs = ⟨m0, m1, r0, r1, r2⟩ := by
  obtain ⟨h0, h1, h2⟩ := h.rows rfl
  obtain ⟨zs, hz⟩ := h.hd
  unfold nsCode codeOf
  rw [h0, h1, h2, hz]
  subst e0 e1 e2
  rfl
end
def AtStage (a0 a1 a2 : Int) (bb : Bool) (k : Nat) (s0 s1 s2 : Value) (r0 r1 r2 : List Ins) (n0 n1 n2 : Nat) : Prop :=
  (k = 0 ∧ s0 = .slice none 0 0 ∧ s1 = .slice none 0 0 ∧ s2 = .slice none 0 0 ∧ r0 = [] ∧ r1 = [] ∧ r2 = [] ∧ n0 = 0 ∧ n1 = 0 ∧ n2 = 0) ∨
  (k = 1 ∧ (bb = false → (n0 : Int) = a0) ∧ s1 = .slice none 0 0 ∧ s2 = .slice none 0 0 ∧ r1 = [] ∧ r2 = [] ∧ n1 = 0 ∧ n2 = 0) ∨
  (k = 2 ∧ (bb = false → (n0 : Int) = a0 ∧ (n1 : Int) = a1) ∧ s2 = .slice none 0 0 ∧ r2 = [] ∧ n2 = 0) ∨
  (k = 3 ∧ (bb = false → (n0 : Int) = a0 ∧ (n1 : Int) = a1 ∧ (n2 : Int) = a2))
section
variable {a0 a1 a2 : Int} {bb : Bool} {s0 s1 s2 : Value} {r0 r1 r2 : List Ins} {n0 n1 n2 : Nat}
theorem AtStage.start : AtStage a0 a1 a2 bb 0 (.slice none 0 0) (.slice none 0 0) (.slice none 0 0) [] [] [] 0 0 0 := .inl ⟨rfl, rfl, rfl, rfl, rfl, rfl, rfl, rfl, rfl, rfl⟩
theorem AtStage.at0 (h : AtStage a0 a1 a2 bb 0 s0 s1 s2 r0 r1 r2 n0 n1 n2) : s0 = .slice none 0 0 ∧ s1 = .slice none 0 0 ∧ s2 = .slice none 0 0 ∧ r0 = [] ∧ r1 = [] ∧ r2 = [] ∧ n0 = 0 ∧ n1 = 0 ∧ n2 = 0 := by
  rcases h with ⟨_, h⟩ | ⟨h, _⟩ | ⟨h, _⟩ | ⟨h, _⟩ <;> first | exact h | cases h
theorem AtStage.at1 (h : AtStage a0 a1 a2 bb 1 s0 s1 s2 r0 r1 r2 n0 n1 n2) : (bb = false → (n0 : Int) = a0) ∧ s1 = .slice none 0 0 ∧ s2 = .slice none 0 0 ∧ r1 = [] ∧ r2 = [] ∧ n1 = 0 ∧ n2 = 0 := by
  rcases h with ⟨h, _⟩ | ⟨_, h⟩ | ⟨h, _⟩ | ⟨h, _⟩ <;> first | exact h | cases h
theorem AtStage.at2 (h : AtStage a0 a1 a2 bb 2 s0 s1 s2 r0 r1 r2 n0 n1 n2) : (bb = false → (n0 : Int) = a0 ∧ (n1 : Int) = a1) ∧ s2 = .slice none 0 0 ∧ r2 = [] ∧ n2 = 0 := by
  rcases h with ⟨h, _⟩ | ⟨h, _⟩ | ⟨_, h⟩ | ⟨h, _⟩ <;> first | exact h | cases h
theorem AtStage.at3 (h : AtStage a0 a1 a2 bb 3 s0 s1 s2 r0 r1 r2 n0 n1 n2) : bb = false → (n0 : Int) = a0 ∧ (n1 : Int) = a1 ∧ (n2 : Int) = a2 := by
  rcases h with ⟨h, _⟩ | ⟨h, _⟩ | ⟨h, _⟩ | ⟨_, h⟩ <;> first | exact h | cases h
end
section
variable {w W : World} {A0 : Option Addr} {bs : List Int} {g p : Nat} {m0 m1 a0 a1 a2 : Int} {bad : Bool} {rest xs : List Int} {s0 s1 s2 : Value} {r0 r1 r2 : List Ins} {c1 c2 : Nat}
theorem DSt.cell0 (h : DSt w A0 bs g p m0 m1 a0 a1 a2 W bad rest xs s0 s1 s2 r0 r1 r2 c1 c2) : W.cell? ⟨g, 2, none⟩ = some s0 := by rw [(lay (Below.refl _ _) h.code).1 2]; rfl
theorem DSt.cell1 (h : DSt w A0 bs g p m0 m1 a0 a1 a2 W bad rest xs s0 s1 s2 r0 r1 r2 c1 c2) : W.cell? ⟨g, 3, none⟩ = some s1 := by rw [(lay (Below.refl _ _) h.code).1 3]; rfl
theorem DSt.cell2 (h : DSt w A0 bs g p m0 m1 a0 a1 a2 W bad rest xs s0 s1 s2 r0 r1 r2 c1 c2) : W.cell? ⟨g, 4, none⟩ = some s2 := by rw [(lay (Below.refl _ _) h.code).1 4]; rfl
end
end Go.Proofs.Ytmjpajaeffhdeaa.L1
