/- Numbers, tags and lines as bytes, as the reference tells them. -/
import Derived.Test.YteefopaoodfapaaDoorP1a
import Derived.Lib.SmallJoins
namespace Go.Proofs.YteefopaoodfapaaDoor.L1
open Go.RowKit Go.Proofs.YteefopaoodfapaaDoorW.PrintWords Go.Proofs.YteefopaoodfapaaDoor.B
set_option linter.unusedVariables false
set_option linter.unusedSimpArgs false
attribute [local go_sem] mk_cell mk_frozen
def kByte : Kd Int := Kd.flat 1 (fun n => [.int .u8 n]) (fun _ => rfl) (by intro x u hu; simp at hu; rcases hu with rfl; rfl)
theorem flat_lit {α : Type} {n : Nat} {enc : α → List Value} {hn : ∀ x, (enc x).length = n} {h1 : ∀ x, ∀ u ∈ enc x, u.oneCell' = true} {d : Kd α} (hd : d = Kd.flat n enc hn h1) (W : World) (base : Nat) (e : TypeId) (xs : List α) (hb : base ≤ W.heap.size) (hm : xs.length ≤ maxLen) :
    d.R e (W.alloc (.cells (xs.flatMap enc).toArray e)) base (fun _ => True) (.slice (some ⟨W.heap.size, 0, none⟩) xs.length xs.length) xs := by
  subst hd
  exact ⟨fun _ _ => trivial, OwnRow.lit W base (reps_flat hn xs) hb hm⟩
theorem le1 (x : Int) : [x].length ≤ maxLen := by show 1 ≤ 9223372036854775807; decide
theorem byteC (W : World) (A : Addr) (xs : List Int) (hm : xs.length ≤ 9223372036854775807) (h : ∀ j, j < xs.length → W.cell? (A.add j) = some (.int .u8 (xs.getD j 0))) : kByte.C W (some A) xs.length xs :=
  ⟨rfl, hm, fun _ => ⟨A, rfl, fun j p hj => ⟨[.int .u8 p], rfl, rfl, fun i u hu => by
    have hl := (List.getElem?_eq_some_iff.1 hj).1
    have h2 := h j hl
    rw [List.getD_eq_getElem?_getD, hj] at h2
    rcases i with _ | i
    · simp only [List.getElem?_cons_zero, Option.some.injEq] at hu
      subst hu
      show W.cell? (A.add (j * 1 + 0)) = _
      rw [Nat.mul_one, Nat.add_zero]; exact h2
    · simp at hu⟩⟩⟩
/-- A constant turned to bytes. -/
theorem conv_lit (W : World) (e : TypeId) (fr : Nat × Nat) (xs : List Int) (hm : xs.length ≤ 9223372036854775807) : kByte.C (W.alloc (.cells (xs.map (Value.int .u8)).toArray e fr)) (some ⟨W.heap.size, 0, none⟩) xs.length xs := by
  refine byteC _ _ _ hm fun j hj => ?_
  rw [Addr.add_lit, Nat.zero_add, World.cell?_alloc_mark]
  simp [hj]
theorem conv_run (W : World) (C : Array Value) (n c : Nat) : (convert 28 28 (.slice (some ⟨W.heap.size, 0, none⟩) n c)).run Tryd.prog (W.alloc (.cells C 5)) = .ok (.slice (some ⟨W.heap.size, 0, none⟩) n c) (W.alloc (.cells C 5 (C.size, C.size + 1))) :=
  Go.Joins.run_convert_bytes_const_at W 28 5 C n c _ rfl Tryd.underlying28 Tryd.underlying5
section
variable {P : Program} {ops : Array Oper} {rest : List Oper} {o : Oper} {a : Act} {Q : Exit → Act → World → Prop} {α : Type} {n : Nat} {enc : α → List Value} {hn : ∀ x, (enc x).length = n} {h1 : ∀ x, ∀ u ∈ enc x, u.oneCell' = true}
theorem C_flat {d : Kd α} (hdd : d = Kd.flat n enc hn h1) (h0 : 0 < n) {W : World} {A : Option Addr} {m : Nat} {ys : List α} (HR : d.C W A m ys) {ad : Addr} (hA : A = some ad) : ∀ j u, (ys.flatMap enc)[j]? = some u → W.cell? (ad.add j) = some u := by
  subst hdd
  intro j u hu
  obtain ⟨p, hp, hpu⟩ := flat_get hn h0 hu
  have hpos : 0 < m := by
    rw [← HR.1]
    exact Nat.lt_of_le_of_lt (Nat.zero_le _) (List.getElem?_eq_some_iff.1 hp).1
  obtain ⟨ad', h', hc⟩ := HR.2.2 hpos
  rw [hA] at h'
  injection h' with h'
  subst h'
  obtain ⟨c0, _, hc1, hc2⟩ := hc (j / n) p hp
  have hc1' : c0 = enc p := hc1
  subst hc1'
  have := hc2 (j % n) u hpu
  rwa [show j / n * (Kd.flat n enc hn h1).sz + j % n = j from by show j / n * n + j % n = j; rw [Nat.mul_comm, Nat.div_add_mod]] at this
/-- append(full, row...): a row that is only read, without room. -/
theorem flat_append_full (d : Kd α) (hdd : d = Kd.flat n enc hn h1) {w0 W : World} (base : Nat) (hgd : o.guard = none) (s x : Operand) (t e : TypeId) (z0 : α) (bytes : Nat)
    (ho : o.op = .call { callee := .builtin .append, args := #[s, x], argTypes := #[t, t] })
    (ht : P.underlying t = some (.slice e)) (hinfo : (P.info? e).map (fun i => (i.zero.map (·.cells.toList), i.size, i.bytes)) = some (some (enc z0), n, bytes)) (h0 : 0 < n) (hb0 : 0 < bytes)
    (ad : Addr) (k : Nat) (xs ys : List α) (A : Option Addr) (m c : Nat) (hs : a.eval s = .slice (some ad) k k) (hx : a.eval x = .slice A m c)
    (HX : d.C W (some ad) k xs) (HR : d.C W A m ys) (hm : 0 < m) (HB : Below base w0 W) (hbase : base ≤ W.heap.size) (hl : (xs.length + m) * bytes ≤ 140737488355328)
    (h : ∀ v1 w1, d.R e w1 base (fun _ => True) v1 (xs ++ ys) → Below base w0 w1 → wpList P ops Q rest (a.put o.dst v1) w1) :
    wpList P ops Q (o :: rest) a W := by
  obtain ⟨i0, hi, hzz⟩ := Option.map_eq_some_iff.1 hinfo
  simp only [Prod.mk.injEq] at hzz
  obtain ⟨hz0, hz1, hz2⟩ := hzz
  obtain ⟨z, hz3, hz4⟩ := Option.map_eq_some_iff.1 hz0
  have hk : xs.length = k := HX.1
  have hm2 : ys.length = m := HR.1
  have hlen : k + m ≤ 140737488355328 := by rw [← hk]; exact Nat.le_trans (Nat.le_mul_of_pos_right _ hb0) hl
  obtain ⟨ad2, hA, _⟩ := HR.2.2 hm
  have hcx := C_flat hdd h0 HX rfl
  have hcy := C_flat hdd h0 HR hA
  subst hA
  refine wpList_append_grows W hgd s x t ho e i0 z n bytes ht hi hz3 hz1 hz2 (by rw [← Array.length_toList, hz4]; exact hn z0) h0 (some ad) k k (xs.flatMap enc) hs (fun h => by cases h) (by rw [(reps_flat hn xs).1, hk]) (fun b hb => by cases hb; exact hcx) ad2 m c (ys.flatMap enc) hx (by rw [(reps_flat hn ys).1, hm2]) hcy (by intro u hu; obtain ⟨q, _, hq⟩ := List.mem_flatMap.1 hu; exact h1 q u hq) (by omega) (by simp only [maxLen]; omega) (by rw [← hk]; exact hl) ?_
  intro v' w' hown hg
  subst hdd
  refine h v' w' ⟨fun _ _ => trivial, _, ?_, reps_append (reps_flat hn xs) (reps_flat hn ys)⟩ (HB.grown hg hbase (fun k hk => by cases hk))
  rw [List.length_append, hk, hm2]
  exact Go.Joins.ownsRow_le hown hbase
end
/-- The rows' blocks are of bytes. -/
def Ty (W : World) (A : Option Addr) : Prop := ∀ ad : Addr, A = some ad → ∃ (cs : Array Value) (fr : Nat × Nat), W.heap[ad.block]? = some (Obj.cells cs 5 fr)
theorem Ty.below {W W' : World} {A : Option Addr} (h : Ty W A) (hb : Below W.heap.size W W') : Ty W' A := fun ad e => by
  obtain ⟨cs, fr, h⟩ := h ad e
  exact ⟨cs, fr, blk_below h hb⟩
theorem Ty.own {W : World} {base n c : Nat} {ok : Nat → Prop} {A : Option Addr} {xs : List Int} (h : kByte.R 5 W base ok (.slice A n c) xs) : Ty W A := fun ad e => by
  obtain ⟨inner, ho⟩ := Kd.R_own h
  obtain ⟨cells, hc⟩ := own_typed ho ad.block (by rw [e]; rfl)
  exact ⟨cells, _, hc⟩
def ByteRow (W : World) (v : Value) (xs : List Int) : Prop := ∃ A c, v = .slice A xs.length c ∧ kByte.C W A xs.length xs ∧ Ty W A
theorem ByteRow.of {W : World} {base : Nat} {ok : Nat → Prop} {v : Value} {xs : List Int} (h : kByte.R 5 W base ok v xs) : ByteRow W v xs := by
  obtain ⟨A, c, rfl, _, hc⟩ := Kd.R_reads h
  exact ⟨A, c, rfl, hc, Ty.own h⟩
/-- A block of rows of bytes. -/
def ReadFlds (w : World) (B : Nat) (fs : List (List Int)) : Prop := ∀ j, j < fs.length → ∃ A c, w.cell? ⟨B, j, none⟩ = some (.slice A (fs.getD j []).length c) ∧ kByte.C w A (fs.getD j []).length (fs.getD j [])
theorem ReadFlds.below {w w1 : World} {B : Nat} {fs : List (List Int)} (h : ReadFlds w B fs) (hb : Below w.heap.size w w1) : ReadFlds w1 B fs := by
  intro j hj
  obtain ⟨A, c, h1, h2⟩ := h j hj
  exact ⟨A, c, pw_cell_below hb h1, Kd.C_below h2 hb⟩
theorem joinTo_len {fs : List (List Int)} (h : ∀ f, f ∈ fs → f.length ≤ 16) : ∀ j, (joinTo fs j).length ≤ 17 * j
  | 0 => by simp [joinTo]
  | j + 1 => by
    have h1 := joinTo_len h j
    have h2 : (fs.getD j []).length ≤ 16 := by
      rw [List.getD_eq_getElem?_getD]
      rcases Nat.lt_or_ge j fs.length with hj | hj
      · rw [List.getElem?_eq_getElem hj]; exact h _ (List.getElem_mem hj)
      · rw [List.getElem?_eq_none hj]; simp
    show ((joinTo fs j ++ if j = 0 then [] else [32]) ++ fs.getD j []).length ≤ _
    rw [List.length_append, List.length_append]
    have h3 : (if j = 0 then ([] : List Int) else [32]).length ≤ 1 := by split <;> simp
    omega
set_option maxRecDepth 100000 in
set_option maxHeartbeats 2000000 in
theorem spec_digits : ∀ (z : Nat) (w : World), z ≤ 9000000000 → Calls Tryd.prog 57 #[.int .i64 z] w fun e w' => ∃ v, e = .returned v ∧ kByte.R 5 w' w.heap.size (fun _ => True) v (digs z) ∧ Below w.heap.size w w' := by
  intro z
  induction z using Nat.strongRecOn with
  | _ z ih =>
  intro w hz
  by_cases h : z < 10
  · have p0 : decide ((z : Int) < 10) = true := decide_eq_true (by omega)
    go_enter Tryd.func57, Tryd.ntmps57
    go_wp2
    go_ret
    exact ⟨_, rfl, by rw [digs_small h]; exact flat_lit (d := kByte) rfl w w.heap.size 5 [48 + (z : Int)] (Nat.le_refl _) (le1 _), below_alloc (Below.refl _ _) _⟩
  · have p0 : decide ((z : Int) < 10) = false := decide_eq_false (by omega)
    go_enter Tryd.func57, Tryd.ntmps57
    have HG := Aside0.mk (show digs z = digs (z / 10) ++ [48 + (z : Int) % 10] by rw [digs_big h]; congr 1)
    have HI := Aside0.mk (ih (z / 10) (by omega)); clear ih
    have HL := Aside0.mk (show (digs (z / 10)).length ≤ 11 from digs_len 10 _ (by omega))
    go_wp2_with fail
    go_at_call 57
    refine (HI.out _ (by omega)).mono ?_
    rintro e w1 ⟨v, rfl, hr, hb⟩
    obtain ⟨A, m, rfl, _, hc⟩ := Kd.R_reads hr
    have HR1 := Aside0.mk hr; have HB1 := Aside0.mk hb; clear hr hc hb
    go_wp2_with (refine Kd.flat_append_row kByte rfl (w0 := w) w.heap.size rfl _ _ 28 5 0 1 rfl Tryd.underlying28 (by kernel_rfl) (by decide) (by decide) _ (digs (z / 10)) [(48 + (z : Int) % 10)] _ _ _ rfl rfl (Kd.R_alloc HR1.out (.cells #[.int .u8 (48 + (z : Int) % 10)] 5)) (Kd.R_reads' (flat_lit (d := kByte) rfl w1 w.heap.size 5 [(48 + (z : Int) % 10)] HB1.out.size (le1 _))).2.2 (bel_box HB1.out (.cells #[.int .u8 (48 + (z : Int) % 10)] 5)) (bel_box HB1.out (.cells #[.int .u8 (48 + (z : Int) % 10)] 5)).size (by have := HL.out; simp; omega) ?_; intro v2 w2 hr hb _ _; have HR2 := Aside0.mk hr; have HB2 := Aside0.mk hb; clear hr hb)
    go_ret
    exact ⟨_, rfl, by rw [HG.out]; exact HR2.out, HB2.out⟩
section
variable (w : World)
set_option maxRecDepth 100000 in
set_option maxHeartbeats 2000000 in
theorem spec_dec (n : Int) (hn : -1000000000 ≤ n ∧ n ≤ 1000000000) : Calls Tryd.prog 38 #[.int .i64 n] w fun e w' => ∃ v, e = .returned v ∧ kByte.R 5 w' w.heap.size (fun _ => True) v (dec n) ∧ Below w.heap.size w w' := by
  rcases Int.lt_or_le n 0 with h | h
  · have p0 : decide (n < 0) = true := decide_eq_true h
    obtain ⟨z, hz⟩ : ∃ z : Nat, -n = (z : Int) := ⟨(-n).toNat, by omega⟩
    have q0 : IntKind.i64.wrap (-n) = (z : Int) := by rw [IntWalk.i64_in _ (by omega)]; exact hz
    have HV := Aside0.mk (show dec n = [45] ++ digs z by unfold dec; rw [if_pos h, hz]; rfl)
    have HZ := Aside0.mk (show z ≤ 9000000000 by omega)
    have HL := Aside0.mk (show (digs z).length ≤ 11 from digs_len 10 _ (by omega))
    have hpos : 0 < (digs z).length := by
      by_cases hz2 : z < 10
      · rw [digs_small hz2]; exact Nat.zero_lt_one
      · rw [digs_big hz2, List.length_append]; exact Nat.lt_of_lt_of_le (Nat.zero_lt_one) (Nat.le_add_left _ _)
    have HP := Aside0.mk hpos; clear hpos
    have HB0 := Aside0.mk (below_alloc (Below.refl w.heap.size w) (.cells #[.int .u8 45] 5 (1, 2)))
    have HR0 := Aside0.mk (conv_lit w 5 (1, 2) [45] (by decide))
    have hcv : (convert 28 28 (.slice (some ⟨w.heap.size, 0, none⟩) 1 1)).run Tryd.prog (w.alloc (.cells #[.int .u8 45] 5)) = .ok (.slice (some ⟨w.heap.size, 0, none⟩) 1 1) (w.alloc (.cells #[.int .u8 45] 5 (1, 2))) := conv_run w _ 1 1
    go_enter Tryd.func38, Tryd.ntmps38
    clear hz
    go_wp2_with fail
    clear hcv
    go_at_call 57
    refine (spec_digits z _ HZ.out).mono ?_
    rintro e w1 ⟨v, rfl, hr, hb⟩
    obtain ⟨A, m, rfl, _, hc⟩ := Kd.R_reads hr
    have HR1 := Aside0.mk (Kd.C_below HR0.out hb); have HC := Aside0.mk hc; have HB1 := Aside0.mk (bel_call HB0.out hb); clear hr hc hb
    go_wp2_with (refine flat_append_full kByte rfl (w0 := w) w.heap.size rfl _ _ 28 5 0 1 rfl Tryd.underlying28 (by kernel_rfl) (by decide) (by decide) ⟨w.heap.size, 0, none⟩ 1 [45] (digs z) _ _ _ rfl rfl HR1.out HC.out HP.out HB1.out HB1.out.size (by have := HL.out; simp; omega) ?_; intro v2 w2 hr hb; have HR2 := Aside0.mk hr; have HB2 := Aside0.mk hb; clear hr hb)
    go_ret
    exact ⟨_, rfl, by rw [HV.out]; exact HR2.out, HB2.out⟩
  · have p0 : decide (n < 0) = false := decide_eq_false (by omega)
    obtain ⟨z, rfl⟩ : ∃ z : Nat, n = (z : Int) := ⟨n.toNat, by omega⟩
    have HV := Aside0.mk (show dec (z : Int) = digs z by unfold dec; rw [if_neg (by omega)]; rfl)
    have HZ := Aside0.mk (show z ≤ 9000000000 by omega)
    go_enter Tryd.func38, Tryd.ntmps38
    go_wp2_with fail
    go_at_call 57
    refine (spec_digits z _ HZ.out).mono ?_
    rintro e w1 ⟨v, rfl, hr, hb⟩
    have HR := Aside0.mk hr; clear hr
    go_wp2
    go_ret
    exact ⟨_, rfl, by rw [HV.out]; exact HR.out, hb⟩
set_option maxRecDepth 100000 in
set_option maxHeartbeats 2000000 in
theorem spec_tagText (s : Int) (hs : 0 ≤ s ∧ s ≤ 65535) : Calls Tryd.prog 39 #[.int .i64 s] w fun e w' => ∃ v, e = .returned v ∧ ByteRow w' v (tagT s) ∧ Below w.heap.size w w' := by
  have HS := Aside0.mk hs
  have HL := Aside0.mk (flat_lit (d := kByte) rfl w w.heap.size 5 [] (Nat.le_refl _) (by simp))
  have HB := Aside0.mk (below_alloc (Below.refl w.heap.size w) (.cells #[] 5))
  go_enter Tryd.func39, Tryd.ntmps39
  go_wp2_with fail
  go_loopg [3, 4] 17 (fun q v3 v4 wr => ∃ j : Nat, q = 17 - j ∧ j ≤ 16 ∧ v4 = .int .i64 j ∧ Aside0 (kByte.R 5 wr w.heap.size (fun _ => True) v3 (tagsTo s j)) ∧ Aside0 (Below w.heap.size w wr))
  case atStart => exact ⟨0, by omega, by omega, rfl, HL, HB⟩
  case round =>
    obtain ⟨j, rfl, hj, rfl, HO, HBj⟩ := hrel
    clear HL HB
    have HN := Aside0.mk (tagsTo_len s j)
    by_cases hlt : j < 16
    · obtain ⟨A', c', rfl⟩ := Kd.R_slice HO.out
      have hmod : (s / 2 ^ j).tmod 2 = s / 2 ^ j % 2 := Int.tmod_eq_emod_of_nonneg (Int.ediv_nonneg HS.out.1 (Int.pow_nonneg (by decide)))
      have HU := Aside0.mk (tagsTo_succ s j)
      have HS2 := Aside0.mk hs; clear hs HS
      by_cases hb : s / 2 ^ j % 2 = 1
      · have HU1 := Aside0.mk (show tagsTo s (j + 1) = tagsTo s j ++ [97 + (j : Int)] by rw [HU.out]; unfold tagAt; rw [if_pos hb]; congr 1)
        have q1 : ((s / 2 ^ j).tmod 2 == 1) = true := by rw [hmod, hb]; rfl
        have q2 : decide ((s / 2 ^ j).tmod 2 = 1) = true := by rw [hmod, hb]; rfl
        clear hb hmod HU
        go_wp2_with (refine Kd.flat_append_row kByte rfl (w0 := w) w.heap.size rfl _ _ 28 5 0 1 rfl Tryd.underlying28 (by kernel_rfl) (by decide) (by decide) _ (tagsTo s j) [(97 + (j : Int))] _ _ _ rfl rfl (Kd.R_alloc HO.out (.cells #[.int .u8 (97 + (j : Int))] 5)) (Kd.R_reads' (flat_lit (d := kByte) rfl wr w.heap.size 5 [(97 + (j : Int))] HBj.out.size (le1 _))).2.2 (bel_box HBj.out (.cells #[.int .u8 (97 + (j : Int))] 5)) (bel_box HBj.out (.cells #[.int .u8 (97 + (j : Int))] 5)).size (by have := HN.out; simp; omega) ?_; intro v2 w2 hr hb _ _; have HR2 := Aside0.mk hr; have HB2 := Aside0.mk hb; clear hr hb)
        go_roundg (17 - (j + 1))
        case measure => omega
        case rel => exact ⟨j + 1, rfl, by omega, by go_num, ⟨by rw [HU1.out]; exact HR2.out⟩, HB2⟩
      · have HU1 := Aside0.mk (show tagsTo s (j + 1) = tagsTo s j by rw [HU.out]; unfold tagAt; rw [if_neg hb, List.append_nil])
        have q1 : ((s / 2 ^ j).tmod 2 == 1) = false := by rw [hmod]; exact beq_false_of_ne hb
        have q2 : decide ((s / 2 ^ j).tmod 2 = 1) = false := by rw [hmod]; exact decide_eq_false hb
        clear hb hmod HU
        go_wp2
        go_roundg (17 - (j + 1))
        case measure => omega
        case rel => exact ⟨j + 1, rfl, by omega, by go_num, ⟨by rw [HU1.out]; exact HO.out⟩, HBj⟩
    · have hj3 : j = 16 := by omega
      subst hj3
      obtain ⟨A', c', rfl⟩ := Kd.R_slice HO.out
      by_cases h0 : (tagsTo s 16).length = 0
      · have HT := Aside0.mk (show tagT s = [45] by unfold tagT; rw [if_pos h0])
        have hcv : (convert 28 28 (.slice (some ⟨wr.heap.size, 0, none⟩) 1 1)).run Tryd.prog (wr.alloc (.cells #[.int .u8 45] 5)) = .ok (.slice (some ⟨wr.heap.size, 0, none⟩) 1 1) (wr.alloc (.cells #[.int .u8 45] 5 (1, 2))) := conv_run wr _ 1 1
        have HL := Aside0.mk (conv_lit wr 5 (1, 2) [45] (by decide))
        rw [h0]
        go_wp2
        go_ret
        rw [HT.out]
        exact ⟨_, rfl, ⟨_, _, rfl, HL.out, fun ad e => by cases e; exact ⟨_, _, al_new _ _⟩⟩, bel_box HBj.out _⟩
      · have HT := Aside0.mk (show tagT s = tagsTo s 16 by unfold tagT; rw [if_neg h0])
        have q1 : (((tagsTo s 16).length : Int) == 0) = false := beq_false_of_ne (by omega)
        have q2 : decide (((tagsTo s 16).length : Int) = 0) = false := decide_eq_false (by omega)
        go_wp2
        go_ret
        rw [HT.out]
        exact ⟨_, rfl, ByteRow.of HO.out, HBj.out⟩
set_option maxRecDepth 100000 in
set_option maxHeartbeats 2000000 in
theorem spec_join (B c : Nat) (fs : List (List Int)) (hr : ReadFlds w B fs) (hl : fs.length ≤ 100) (hf : ∀ f, f ∈ fs → f.length ≤ 16) : Calls Tryd.prog 41 #[.slice (some ⟨B, 0, none⟩) fs.length c] w fun e w' => ∃ v, e = .returned v ∧ kByte.R 5 w' w.heap.size (fun _ => True) v (lineOf fs) ∧ Below w.heap.size w w' := by
  have HX := Aside0.mk hr; have HF := Aside0.mk hf; clear hr hf
  have HL := Aside0.mk (flat_lit (d := kByte) rfl w w.heap.size 5 [] (Nat.le_refl _) (Nat.zero_le _))
  have HB := Aside0.mk (below_alloc (Below.refl w.heap.size w) (.cells #[] 5))
  go_enter Tryd.func41, Tryd.ntmps41
  go_wp2_with fail
  go_loopg [3, 4] (fs.length + 1) (fun q v3 v4 wr => ∃ j : Nat, q = fs.length + 1 - j ∧ j ≤ fs.length ∧ v4 = .int .i64 j ∧ Aside0 (kByte.R 5 wr w.heap.size (fun _ => True) v3 (joinTo fs j)) ∧ Aside0 (Below w.heap.size w wr))
  case atStart => exact ⟨0, by omega, by omega, rfl, HL, HB⟩
  case round =>
    obtain ⟨j, rfl, hj, rfl, HO, HBj⟩ := hrel
    clear HL HB
    have HN := Aside0.mk (joinTo_len HF.out j)
    obtain ⟨A', c', rfl⟩ := Kd.R_slice HO.out
    by_cases hlt : j < fs.length
    · obtain ⟨A, c1, hc, hC⟩ := HX.out j hlt
      have HFJ := Aside0.mk (show (fs.getD j []).length ≤ 16 by rw [List.getD_eq_getElem?_getD, List.getElem?_eq_getElem hlt]; exact HF.out _ (List.getElem_mem hlt))
      have HC := Aside0.mk hC; clear hC
      have HCL := Aside0.mk hc; clear hc
      rcases Nat.eq_zero_or_pos j with rfl | hpos
      · have HU := Aside0.mk (show joinTo fs (0 + 1) = [] ++ fs.getD 0 [] from rfl)
        have HO' := Aside0.mk (show kByte.R 5 wr w.heap.size (fun _ => True) (.slice A' 0 c') [] from HO.out)
        generalize fs.getD 0 [] = ys at HC HU HFJ HCL
        have z := pw_cell_below HBj.out HCL.out
        have HC2 := Aside0.mk (Kd.C_below HC.out HBj.out)
        go_wp2_with (refine Kd.flat_append_row kByte rfl (w0 := w) w.heap.size rfl _ _ 28 5 0 1 rfl Tryd.underlying28 (by kernel_rfl) (by decide) (by decide) _ [] ys _ _ _ rfl rfl HO'.out HC2.out HBj.out HBj.out.size (by have := HFJ.out; simp; omega) ?_; intro v2 w2 hr hb _ _; have HR2 := Aside0.mk hr; have HB2 := Aside0.mk hb; clear hr hb)
        go_roundg (fs.length + 1 - (0 + 1))
        case measure => omega
        case rel => exact ⟨0 + 1, rfl, by omega, by go_num, ⟨by rw [HU.out]; exact HR2.out⟩, HB2⟩
      · have HU := Aside0.mk (show joinTo fs (j + 1) = (joinTo fs j ++ [32]) ++ fs.getD j [] by show (joinTo fs j ++ if j = 0 then [] else [32]) ++ _ = _; rw [if_neg (by omega)])
        have p0 : decide (0 < (j : Int)) = true := decide_eq_true (by omega)
        generalize fs.getD j [] = ys at HC HU HFJ HCL
        generalize joinTo fs j = xs at HO HN HU
        go_wp2_with (first | (refine Kd.flat_append_row kByte rfl (w0 := w) w.heap.size rfl _ _ 28 5 0 1 rfl Tryd.underlying28 (by kernel_rfl) (by decide) (by decide) _ (xs ++ [32]) ys _ _ _ rfl rfl HR2.out HC3.out HB2.out HB2.out.size (by have := HFJ.out; have := HN.out; simp; omega) ?_; intro v3 w3 hr hb _ _; have HR3 := Aside0.mk hr; have HB3 := Aside0.mk hb; clear hr hb) | (refine Kd.flat_append_row kByte rfl (w0 := w) w.heap.size rfl _ _ 28 5 0 1 rfl Tryd.underlying28 (by kernel_rfl) (by decide) (by decide) _ xs [32] _ _ _ rfl rfl (Kd.R_alloc HO.out (.cells #[.int .u8 32] 5)) (Kd.R_reads' (flat_lit (d := kByte) rfl wr w.heap.size 5 [32] HBj.out.size (le1 _))).2.2 (bel_box HBj.out (.cells #[.int .u8 32] 5)) (bel_box HBj.out (.cells #[.int .u8 32] 5)).size (by have := HN.out; simp; omega) ?_; intro v2 w2 hr hb _ _; have HR2 := Aside0.mk hr; have HB2 := Aside0.mk hb; clear hr hb; have z := pw_cell_below HB2.out HCL.out; have HC3 := Aside0.mk (Kd.C_below HC.out HB2.out)))
        go_roundg (fs.length + 1 - (j + 1))
        case measure => omega
        case rel => exact ⟨j + 1, rfl, by omega, by go_num, ⟨by rw [HU.out]; exact HR3.out⟩, HB3⟩
    · have hj3 : j = fs.length := by omega
      subst hj3
      have HU := Aside0.mk (show lineOf fs = joinTo fs fs.length ++ [10] from rfl)
      generalize joinTo fs fs.length = xs at HO HN HU
      go_wp2_with (refine Kd.flat_append_row kByte rfl (w0 := w) w.heap.size rfl _ _ 28 5 0 1 rfl Tryd.underlying28 (by kernel_rfl) (by decide) (by decide) _ xs [10] _ _ _ rfl rfl (Kd.R_alloc HO.out (.cells #[.int .u8 10] 5)) (Kd.R_reads' (flat_lit (d := kByte) rfl wr w.heap.size 5 [10] HBj.out.size (le1 _))).2.2 (bel_box HBj.out (.cells #[.int .u8 10] 5)) (bel_box HBj.out (.cells #[.int .u8 10] 5)).size (by have := HN.out; simp; omega) ?_; intro v2 w2 hr hb _ _; have HR2 := Aside0.mk hr; have HB2 := Aside0.mk hb; clear hr hb)
      go_ret
      exact ⟨_, rfl, by rw [HU.out]; exact HR2.out, HB2.out⟩
end
end Go.Proofs.YteefopaoodfapaaDoor.L1
