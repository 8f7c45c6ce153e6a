/- The law FnExactValidState's own walk; a state that came in is opened. -/
import Derived.Test.YtmjpajaeffhdeaaL4d
import Derived.Test.YtmjpajaeffhdeaaL3g
import Derived.Test.YtmjpajaeffhdeaaL2g
namespace Go.Proofs.Ytmjpajaeffhdeaa.L1
open Go.RowKit Go.Proofs.YtmjpajaeffhdeaaW.PrintWords Go.Proofs.Ytmjpajaeffhdeaa.B
set_option linter.unusedVariables false
set_option linter.unusedSimpArgs false
attribute [local go_sem] mk_cell mk_frozen
theorem keepC17 {w W w1 : World} {a0 a1 a2 a3 a4 a5 a6 a7 a8 a9 a10 a11 a12 a13 a14 a15 a16 : Addr} {v0 v1 v2 v3 v4 v5 v6 v7 v8 v9 v10 v11 v12 v13 v14 v15 v16 : Value} (h : W.cell? a0 = some v0 ∧ W.cell? a1 = some v1 ∧ W.cell? a2 = some v2 ∧ W.cell? a3 = some v3 ∧ W.cell? a4 = some v4 ∧ W.cell? a5 = some v5 ∧ W.cell? a6 = some v6 ∧ W.cell? a7 = some v7 ∧ W.cell? a8 = some v8 ∧ W.cell? a9 = some v9 ∧ W.cell? a10 = some v10 ∧ W.cell? a11 = some v11 ∧ W.cell? a12 = some v12 ∧ W.cell? a13 = some v13 ∧ W.cell? a14 = some v14 ∧ W.cell? a15 = some v15 ∧ W.cell? a16 = some v16 ∧ Below w.heap.size w W) (hb : Below W.heap.size W w1) : w1.cell? a0 = some v0 ∧ w1.cell? a1 = some v1 ∧ w1.cell? a2 = some v2 ∧ w1.cell? a3 = some v3 ∧ w1.cell? a4 = some v4 ∧ w1.cell? a5 = some v5 ∧ w1.cell? a6 = some v6 ∧ w1.cell? a7 = some v7 ∧ w1.cell? a8 = some v8 ∧ w1.cell? a9 = some v9 ∧ w1.cell? a10 = some v10 ∧ w1.cell? a11 = some v11 ∧ w1.cell? a12 = some v12 ∧ w1.cell? a13 = some v13 ∧ w1.cell? a14 = some v14 ∧ w1.cell? a15 = some v15 ∧ w1.cell? a16 = some v16 ∧ Below w.heap.size w w1 := ⟨pw_cell_below hb h.1, pw_cell_below hb h.2.1, pw_cell_below hb h.2.2.1, pw_cell_below hb h.2.2.2.1, pw_cell_below hb h.2.2.2.2.1, pw_cell_below hb h.2.2.2.2.2.1, pw_cell_below hb h.2.2.2.2.2.2.1, pw_cell_below hb h.2.2.2.2.2.2.2.1, pw_cell_below hb h.2.2.2.2.2.2.2.2.1, pw_cell_below hb h.2.2.2.2.2.2.2.2.2.1, pw_cell_below hb h.2.2.2.2.2.2.2.2.2.2.1, pw_cell_below hb h.2.2.2.2.2.2.2.2.2.2.2.1, pw_cell_below hb h.2.2.2.2.2.2.2.2.2.2.2.2.1, pw_cell_below hb h.2.2.2.2.2.2.2.2.2.2.2.2.2.1, pw_cell_below hb h.2.2.2.2.2.2.2.2.2.2.2.2.2.2.1, pw_cell_below hb h.2.2.2.2.2.2.2.2.2.2.2.2.2.2.2.1, pw_cell_below hb h.2.2.2.2.2.2.2.2.2.2.2.2.2.2.2.2.1, bel_call h.2.2.2.2.2.2.2.2.2.2.2.2.2.2.2.2.2 hb⟩
theorem belC17 {w W : World} {a0 a1 a2 a3 a4 a5 a6 a7 a8 a9 a10 a11 a12 a13 a14 a15 a16 : Addr} {v0 v1 v2 v3 v4 v5 v6 v7 v8 v9 v10 v11 v12 v13 v14 v15 v16 : Value} (h : W.cell? a0 = some v0 ∧ W.cell? a1 = some v1 ∧ W.cell? a2 = some v2 ∧ W.cell? a3 = some v3 ∧ W.cell? a4 = some v4 ∧ W.cell? a5 = some v5 ∧ W.cell? a6 = some v6 ∧ W.cell? a7 = some v7 ∧ W.cell? a8 = some v8 ∧ W.cell? a9 = some v9 ∧ W.cell? a10 = some v10 ∧ W.cell? a11 = some v11 ∧ W.cell? a12 = some v12 ∧ W.cell? a13 = some v13 ∧ W.cell? a14 = some v14 ∧ W.cell? a15 = some v15 ∧ W.cell? a16 = some v16 ∧ Below w.heap.size w W) : Below w.heap.size w W := h.2.2.2.2.2.2.2.2.2.2.2.2.2.2.2.2.2
theorem keepC18 {w W w1 : World} {a0 a1 a2 a3 a4 a5 a6 a7 a8 a9 a10 a11 a12 a13 a14 a15 a16 a17 : Addr} {v0 v1 v2 v3 v4 v5 v6 v7 v8 v9 v10 v11 v12 v13 v14 v15 v16 v17 : Value} (h : W.cell? a0 = some v0 ∧ W.cell? a1 = some v1 ∧ W.cell? a2 = some v2 ∧ W.cell? a3 = some v3 ∧ W.cell? a4 = some v4 ∧ W.cell? a5 = some v5 ∧ W.cell? a6 = some v6 ∧ W.cell? a7 = some v7 ∧ W.cell? a8 = some v8 ∧ W.cell? a9 = some v9 ∧ W.cell? a10 = some v10 ∧ W.cell? a11 = some v11 ∧ W.cell? a12 = some v12 ∧ W.cell? a13 = some v13 ∧ W.cell? a14 = some v14 ∧ W.cell? a15 = some v15 ∧ W.cell? a16 = some v16 ∧ W.cell? a17 = some v17 ∧ Below w.heap.size w W) (hb : Below W.heap.size W w1) : w1.cell? a0 = some v0 ∧ w1.cell? a1 = some v1 ∧ w1.cell? a2 = some v2 ∧ w1.cell? a3 = some v3 ∧ w1.cell? a4 = some v4 ∧ w1.cell? a5 = some v5 ∧ w1.cell? a6 = some v6 ∧ w1.cell? a7 = some v7 ∧ w1.cell? a8 = some v8 ∧ w1.cell? a9 = some v9 ∧ w1.cell? a10 = some v10 ∧ w1.cell? a11 = some v11 ∧ w1.cell? a12 = some v12 ∧ w1.cell? a13 = some v13 ∧ w1.cell? a14 = some v14 ∧ w1.cell? a15 = some v15 ∧ w1.cell? a16 = some v16 ∧ w1.cell? a17 = some v17 ∧ Below w.heap.size w w1 := ⟨pw_cell_below hb h.1, pw_cell_below hb h.2.1, pw_cell_below hb h.2.2.1, pw_cell_below hb h.2.2.2.1, pw_cell_below hb h.2.2.2.2.1, pw_cell_below hb h.2.2.2.2.2.1, pw_cell_below hb h.2.2.2.2.2.2.1, pw_cell_below hb h.2.2.2.2.2.2.2.1, pw_cell_below hb h.2.2.2.2.2.2.2.2.1, pw_cell_below hb h.2.2.2.2.2.2.2.2.2.1, pw_cell_below hb h.2.2.2.2.2.2.2.2.2.2.1, pw_cell_below hb h.2.2.2.2.2.2.2.2.2.2.2.1, pw_cell_below hb h.2.2.2.2.2.2.2.2.2.2.2.2.1, pw_cell_below hb h.2.2.2.2.2.2.2.2.2.2.2.2.2.1, pw_cell_below hb h.2.2.2.2.2.2.2.2.2.2.2.2.2.2.1, pw_cell_below hb h.2.2.2.2.2.2.2.2.2.2.2.2.2.2.2.1, pw_cell_below hb h.2.2.2.2.2.2.2.2.2.2.2.2.2.2.2.2.1, pw_cell_below hb h.2.2.2.2.2.2.2.2.2.2.2.2.2.2.2.2.2.1, bel_call h.2.2.2.2.2.2.2.2.2.2.2.2.2.2.2.2.2.2 hb⟩
theorem belC18 {w W : World} {a0 a1 a2 a3 a4 a5 a6 a7 a8 a9 a10 a11 a12 a13 a14 a15 a16 a17 : Addr} {v0 v1 v2 v3 v4 v5 v6 v7 v8 v9 v10 v11 v12 v13 v14 v15 v16 v17 : Value} (h : W.cell? a0 = some v0 ∧ W.cell? a1 = some v1 ∧ W.cell? a2 = some v2 ∧ W.cell? a3 = some v3 ∧ W.cell? a4 = some v4 ∧ W.cell? a5 = some v5 ∧ W.cell? a6 = some v6 ∧ W.cell? a7 = some v7 ∧ W.cell? a8 = some v8 ∧ W.cell? a9 = some v9 ∧ W.cell? a10 = some v10 ∧ W.cell? a11 = some v11 ∧ W.cell? a12 = some v12 ∧ W.cell? a13 = some v13 ∧ W.cell? a14 = some v14 ∧ W.cell? a15 = some v15 ∧ W.cell? a16 = some v16 ∧ W.cell? a17 = some v17 ∧ Below w.heap.size w W) : Below w.heap.size w W := h.2.2.2.2.2.2.2.2.2.2.2.2.2.2.2.2.2.2
theorem belC10 {w W : World} {a0 a1 a2 a3 a4 a5 a6 a7 a8 a9 : Addr} {v0 v1 v2 v3 v4 v5 v6 v7 v8 v9 : Value} (h : W.cell? a0 = some v0 ∧ W.cell? a1 = some v1 ∧ W.cell? a2 = some v2 ∧ W.cell? a3 = some v3 ∧ W.cell? a4 = some v4 ∧ W.cell? a5 = some v5 ∧ W.cell? a6 = some v6 ∧ W.cell? a7 = some v7 ∧ W.cell? a8 = some v8 ∧ W.cell? a9 = some v9 ∧ Below w.heap.size w W) : Below w.heap.size w W := h.2.2.2.2.2.2.2.2.2.2
theorem belC6 {w W : World} {a0 a1 a2 a3 a4 a5 : Addr} {v0 v1 v2 v3 v4 v5 : Value} (h : W.cell? a0 = some v0 ∧ W.cell? a1 = some v1 ∧ W.cell? a2 = some v2 ∧ W.cell? a3 = some v3 ∧ W.cell? a4 = some v4 ∧ W.cell? a5 = some v5 ∧ Below w.heap.size w W) : Below w.heap.size w W := h.2.2.2.2.2.2
section
variable {H : Type} {enc : TypeId × Value → H} {w : World} {base : Nat} {spare : Nat → Bool} {held : Bool}
theorem nine {cs : Array Value} (h : cs.size = 9) : ∃ v0 v1 v2 v3 v4 v5 v6 v7 v8, cs = #[v0, v1, v2, v3, v4, v5, v6, v7, v8] := by
  obtain ⟨l⟩ := cs
  match l, h with
  | [a, b, c, d, e, f, g, h, i], _ => exact ⟨a, b, c, d, e, f, g, h, i, rfl⟩
set_option maxRecDepth 100000 in
/-- A state that came in, by value. -/
theorem open_state {r : Reach} {b0 : Nat} {v : Value} {d : DataW H} {p : List MemPlace} (hv : Value.okWide Try.prog w r b0 67 v) (h : DataW.Trod enc Try.prog w base spare held 67 v d p) : ∃ x, ReadState w v x := by
  obtain ⟨cs, rfl, hsz, hf⟩ := open_agg (Try.underlying67) (by kernel_rfl) (by kernel_rfl) hv h
  obtain ⟨v0, v1, v2, v3, v4, v5, v6, v7, v8, rfl⟩ := nine hsz
  obtain ⟨u0, n0, y0, e0, h0⟩ := hf 0 _ rfl
  obtain ⟨u1, n1, y1, e1, h1⟩ := hf 1 _ rfl
  obtain ⟨u2, n2, y2, e2, h2⟩ := hf 2 _ rfl
  obtain ⟨u3, n3, y3, e3, h3⟩ := hf 3 _ rfl
  obtain ⟨u4, n4, y4, e4, h4⟩ := hf 4 _ rfl
  obtain ⟨u5, n5, y5, e5, h5⟩ := hf 5 _ rfl
  obtain ⟨u6, n6, y6, e6, h6⟩ := hf 6 _ rfl
  obtain ⟨u7, n7, y7, e7, h7⟩ := hf 7 _ rfl
  obtain ⟨u8, n8, y8, e8, h8⟩ := hf 8 _ rfl
  simp only [List.getElem?_toArray, List.getElem?_cons_zero, List.getElem?_cons_succ, Option.some.injEq] at e0 e1 e2 e3 e4 e5 e6 e7 e8
  subst e0 e1 e2 e3 e4 e5 e6 e7 e8
  obtain ⟨z0, f0, _, _⟩ := DataW.trod_int (Try.underlying2) h0
  obtain ⟨z1, f1, _, _⟩ := DataW.trod_int (Try.underlying2) h1
  obtain ⟨z2, f2, _, _⟩ := DataW.trod_int (Try.underlying2) h2
  obtain ⟨z3, f3, _, _⟩ := DataW.trod_int (Try.underlying2) h3
  obtain ⟨z4, f4, _, _⟩ := DataW.trod_int (Try.underlying2) h4
  obtain ⟨z5, f5, _, _⟩ := DataW.trod_int (Try.underlying2) h5
  obtain ⟨A6, c6, l6, f6, r6⟩ := Open.open_C kInt (Try.underlying61) (by kernel_rfl) open_one h6
  obtain ⟨A7, c7, l7, f7, r7⟩ := Open.open_C kInt (Try.underlying61) (by kernel_rfl) open_one h7
  obtain ⟨A8, c8, l8, f8, r8⟩ := Open.open_C kInt (Try.underlying61) (by kernel_rfl) open_one h8
  simp only [List.cons.injEq, and_true] at f0 f1 f2 f3 f4 f5 f6 f7 f8
  subst f0 f1 f2 f3 f4 f5 f6 f7 f8
  exact ⟨⟨z0, z1, z2, z3, z4, z5, l6, l7, l8⟩, A6, c6, A7, c7, A8, c8, rfl, r6, r7, r8⟩
end
section
variable (w : World)
set_option maxRecDepth 100000 in
set_option maxHeartbeats 4000000 in
theorem law_validState (u v1 t : Value) (c : Code) (hc : ReadCode w u c) (x : Inst) (hx : ReadInst w v1 x) (v : Int) (s : St) (hs : ReadState w t s) : Calls Try.prog 13 #[u, v1, .int .i64 v, t] w fun e w' => e = .returned (.bool true) ∧ Below w.heap.size w w' := by
  have HRD := Aside0.mk (And.intro hc (And.intro hx hs))
  obtain ⟨A0, c0, A1, c1, A2, c2, rfl, a0, a1, a2⟩ := hc
  obtain ⟨B0, d0, B1, d1, B2, d2, rfl, b0, b1, b2⟩ := hx
  obtain ⟨S0, g0, S1, g1, S2, g2, rfl, s0, s1, s2⟩ := hs
  clear a0 a1 a2 b0 b1 b2 s0 s1 s2
  have HB0 := Aside0.mk (below_alloc (below_alloc (below_alloc (Below.refl w.heap.size w) (.cells #[.int .i64 c.regs, .int .i64 c.slots, .slice A0 c.b0.length c0, .slice A1 c.b1.length c1, .slice A2 c.b2.length c2] 27)) (.cells #[.slice B0 x.vs.length d0, .slice B1 x.qs.length d1, .slice B2 x.rs.length d2] 48)) (.cells #[.int .i64 s.pos, .int .i64 s.rule, .int .i64 s.node, .int .i64 s.time, .int .i64 s.dist, .int .i64 s.load, .slice S0 s.s0.length g0, .slice S1 s.s1.length g1, .slice S2 s.s2.length g2] 67))
  have h := al_new w (.cells #[.int .i64 c.regs, .int .i64 c.slots, .slice A0 c.b0.length c0, .slice A1 c.b1.length c1, .slice A2 c.b2.length c2] 27)
  replace h := blk_box h (.cells #[.slice B0 x.vs.length d0, .slice B1 x.qs.length d1, .slice B2 x.rs.length d2] 48)
  replace h := blk_box h (.cells #[.int .i64 s.pos, .int .i64 s.rule, .int .i64 s.node, .int .i64 s.time, .int .i64 s.dist, .int .i64 s.load, .slice S0 s.s0.length g0, .slice S1 s.s1.length g1, .slice S2 s.s2.length g2] 67)
  have HP0 := Aside0.mk h; clear h
  have h := al_new (w.alloc (.cells #[.int .i64 c.regs, .int .i64 c.slots, .slice A0 c.b0.length c0, .slice A1 c.b1.length c1, .slice A2 c.b2.length c2] 27)) (.cells #[.slice B0 x.vs.length d0, .slice B1 x.qs.length d1, .slice B2 x.rs.length d2] 48)
  simp only [al_size] at h
  replace h := blk_box h (.cells #[.int .i64 s.pos, .int .i64 s.rule, .int .i64 s.node, .int .i64 s.time, .int .i64 s.dist, .int .i64 s.load, .slice S0 s.s0.length g0, .slice S1 s.s1.length g1, .slice S2 s.s2.length g2] 67)
  have HQ0 := Aside0.mk h; clear h
  have h := al_new ((w.alloc (.cells #[.int .i64 c.regs, .int .i64 c.slots, .slice A0 c.b0.length c0, .slice A1 c.b1.length c1, .slice A2 c.b2.length c2] 27)).alloc (.cells #[.slice B0 x.vs.length d0, .slice B1 x.qs.length d1, .slice B2 x.rs.length d2] 48)) (.cells #[.int .i64 s.pos, .int .i64 s.rule, .int .i64 s.node, .int .i64 s.time, .int .i64 s.dist, .int .i64 s.load, .slice S0 s.s0.length g0, .slice S1 s.s1.length g1, .slice S2 s.s2.length g2] 67)
  simp only [al_size] at h
  have HR0 := Aside0.mk h; clear h
  go_enter Try.func13, Try.ntmps13
  go_wp2_with fail
  go_at_call 18
  refine (szCode _ _ c 1048576 (by omega) (by omega) (HRD.out.1.below HB0.out)).mono ?_
  rintro e w1 ⟨⟨r1, rfl, hr⟩, hb⟩
  have HB1 := Aside0.mk (bel_call HB0.out hb) ; have HP1 := Aside0.mk (blk_below HP0.out hb) ; have HQ1 := Aside0.mk (blk_below HQ0.out hb) ; have HR1 := Aside0.mk (blk_below HR0.out hb) ; clear hb
  rcases hr with rfl | ⟨hp1, hq1, hs1⟩
  · go_wp2
    go_ret
    exact ⟨rfl, HB1.out⟩
  have HZ1 := Aside0.mk hs1; clear hs1
  have hd1 : decide (r1 < 0) = false := by simp; omega
  obtain ⟨p1, p2⟩ := lay (Below.refl _ _) HP1.out
  obtain ⟨q1, q2⟩ := lay (Below.refl _ _) HQ1.out
  obtain ⟨r1, r2⟩ := lay (Below.refl _ _) HR1.out
  go_wp2_with fail
  clear p1 p2 q1 q2 r1 r2
  go_at_call 37
  refine (szInst _ _ x r1 hp1 hq1 (HRD.out.2.1.below HB1.out)).mono ?_
  rintro e w2 ⟨⟨r2, rfl, hr⟩, hb⟩
  have HB2 := Aside0.mk (bel_call HB1.out hb) ; have HP2 := Aside0.mk (blk_below HP1.out hb) ; have HQ2 := Aside0.mk (blk_below HQ1.out hb) ; have HR2 := Aside0.mk (blk_below HR1.out hb) ; clear hb
  rcases hr with rfl | ⟨hp2, hq2, hs2⟩
  · go_wp2
    go_ret
    exact ⟨rfl, HB2.out⟩
  have HZ2 := Aside0.mk hs2; clear hs2
  have hd2 : decide (r2 < 0) = false := by simp; omega
  obtain ⟨p1, p2⟩ := lay (Below.refl _ _) HP2.out
  obtain ⟨q1, q2⟩ := lay (Below.refl _ _) HQ2.out
  obtain ⟨r1, r2⟩ := lay (Below.refl _ _) HR2.out
  go_wp2_with fail
  clear p1 p2 q1 q2 r1 r2
  go_at_call 48
  refine (szState _ _ s r2 hp2 (by omega) (HRD.out.2.2.below HB2.out)).mono ?_
  rintro e w3 ⟨⟨r3, rfl, hr⟩, hb⟩
  have HB3 := Aside0.mk (bel_call HB2.out hb) ; have HP3 := Aside0.mk (blk_below HP2.out hb) ; have HQ3 := Aside0.mk (blk_below HQ2.out hb) ; have HR3 := Aside0.mk (blk_below HR2.out hb) ; clear hb
  rcases hr with rfl | ⟨hp3, hq3, hs3⟩
  · go_wp2
    go_ret
    exact ⟨rfl, HB3.out⟩
  have HZ3 := Aside0.mk hs3; clear hs3
  have hd3 : decide (r3 < 0) = false := by simp; omega
  obtain ⟨p1, p2⟩ := lay (Below.refl _ _) HP3.out
  obtain ⟨q1, q2⟩ := lay (Below.refl _ _) HQ3.out
  obtain ⟨r1, r2⟩ := lay (Below.refl _ _) HR3.out
  go_wp2_with fail
  clear p1 p2 q1 q2 r1 r2
  go_region_held3 (fun w' => w'.cell? ⟨w.heap.size, 0, none⟩ = some (.int .i64 c.regs) ∧ w'.cell? ⟨w.heap.size, 1, none⟩ = some (.int .i64 c.slots) ∧ w'.cell? ⟨w.heap.size, 2, none⟩ = some (.slice A0 c.b0.length c0) ∧ w'.cell? ⟨w.heap.size, 3, none⟩ = some (.slice A1 c.b1.length c1) ∧ w'.cell? ⟨w.heap.size, 4, none⟩ = some (.slice A2 c.b2.length c2) ∧ w'.cell? ⟨w.heap.size + 1, 0, none⟩ = some (.slice B0 x.vs.length d0) ∧ w'.cell? ⟨w.heap.size + 1, 1, none⟩ = some (.slice B1 x.qs.length d1) ∧ w'.cell? ⟨w.heap.size + 1, 2, none⟩ = some (.slice B2 x.rs.length d2) ∧ w'.cell? ⟨w.heap.size + 1 + 1, 0, none⟩ = some (.int .i64 s.pos) ∧ w'.cell? ⟨w.heap.size + 1 + 1, 1, none⟩ = some (.int .i64 s.rule) ∧ w'.cell? ⟨w.heap.size + 1 + 1, 2, none⟩ = some (.int .i64 s.node) ∧ w'.cell? ⟨w.heap.size + 1 + 1, 3, none⟩ = some (.int .i64 s.time) ∧ w'.cell? ⟨w.heap.size + 1 + 1, 4, none⟩ = some (.int .i64 s.dist) ∧ w'.cell? ⟨w.heap.size + 1 + 1, 5, none⟩ = some (.int .i64 s.load) ∧ w'.cell? ⟨w.heap.size + 1 + 1, 6, none⟩ = some (.slice S0 s.s0.length g0) ∧ w'.cell? ⟨w.heap.size + 1 + 1, 7, none⟩ = some (.slice S1 s.s1.length g1) ∧ w'.cell? ⟨w.heap.size + 1 + 1, 8, none⟩ = some (.slice S2 s.s2.length g2) ∧ Below w3.heap.size w3 w')
    (first | exact ⟨blk_cell HP3.out 0, blk_cell HP3.out 1, blk_cell HP3.out 2, blk_cell HP3.out 3, blk_cell HP3.out 4, blk_cell HQ3.out 0, blk_cell HQ3.out 1, blk_cell HQ3.out 2, blk_cell HR3.out 0, blk_cell HR3.out 1, blk_cell HR3.out 2, blk_cell HR3.out 3, blk_cell HR3.out 4, blk_cell HR3.out 5, blk_cell HR3.out 6, blk_cell HR3.out 7, blk_cell HR3.out 8, below_drew (Below.refl _ _)⟩ | exact keepC17 (by assumption) hb1 | exact keepC17 (by assumption) hb2 | exact keepC17 (by assumption) hb3 | exact keepC17 (by assumption) hb4)
    (first
      | (go_at_call 20; refine Calls.mono (toCode _ _ c ?_ HZ1.out) ?_; exact HRD.out.1.below (bel_call HB3.out (belC17 (by assumption))); rintro e y1 ⟨z1, rfl, ho1, hb1⟩; replace ho1 := ho1.read)
      | (go_at_call 39; refine Calls.mono (toInst _ _ x ?_ HZ2.out) ?_; exact HRD.out.2.1.below (bel_call HB3.out (belC17 (by assumption))); rintro e y2 ⟨z2, rfl, ho2, hb2⟩; replace ho2 := ho2.read; replace ho1 := ho1.below hb2)
      | (go_at_call 50; refine Calls.mono (toState _ _ s ?_ HZ3.out) ?_; exact HRD.out.2.2.below (bel_call HB3.out (belC17 (by assumption))); rintro e y3 ⟨z3, rfl, ho3, hb3⟩; replace ho3 := ho3.read; replace ho1 := ho1.below hb3; replace ho2 := ho2.below hb3)
      | (go_at_call 49; refine (spec_ValidState _ _ _ _ c ho1 x ho2 v s ho3 HZ3.out).mono ?_; rintro e y4 ⟨rfl, hb4⟩))
  rename_i hH
  replace hH := belC17 hH
  have HB4 := Aside0.mk (bel_call HB3.out hH) ; have HP4 := Aside0.mk (blk_below HP3.out hH) ; have HQ4 := Aside0.mk (blk_below HQ3.out hH) ; have HR4 := Aside0.mk (blk_below HR3.out hH) ; clear hH
  obtain ⟨p1, p2⟩ := lay (Below.refl _ _) HP4.out
  obtain ⟨q1, q2⟩ := lay (Below.refl _ _) HQ4.out
  obtain ⟨r1, r2⟩ := lay (Below.refl _ _) HR4.out
  go_wp2_with fail
  clear p1 p2 q1 q2 r1 r2
  go_at_call 20
  refine (toCode _ _ c (HRD.out.1.below HB4.out) HZ1.out).mono ?_
  rintro e w5 ⟨u5, rfl, ho, hb⟩
  have HB5 := Aside0.mk (bel_call HB4.out hb) ; have HP5 := Aside0.mk (blk_below HP4.out hb) ; have HQ5 := Aside0.mk (blk_below HQ4.out hb) ; have HR5 := Aside0.mk (blk_below HR4.out hb) ; clear hb
  obtain ⟨E0, e0, E1, e1, E2, e2, rfl, t0, t1, t2⟩ := ho.read
  clear ho
  have HXC5 := Aside0.mk (show ReadCode w5 (.agg #[.int .i64 c.regs, .int .i64 c.slots, .slice E0 c.b0.length e0, .slice E1 c.b1.length e1, .slice E2 c.b2.length e2]) c from ⟨_, _, _, _, _, _, rfl, t0, t1, t2⟩); clear t0 t1 t2
  obtain ⟨p1, p2⟩ := lay (Below.refl _ _) (blk_box HP5.out (.cells #[.int .i64 c.regs, .int .i64 c.slots, .slice E0 c.b0.length e0, .slice E1 c.b1.length e1, .slice E2 c.b2.length e2] 32))
  obtain ⟨q1, q2⟩ := lay (Below.refl _ _) (blk_box HQ5.out (.cells #[.int .i64 c.regs, .int .i64 c.slots, .slice E0 c.b0.length e0, .slice E1 c.b1.length e1, .slice E2 c.b2.length e2] 32))
  obtain ⟨r1, r2⟩ := lay (Below.refl _ _) (blk_box HR5.out (.cells #[.int .i64 c.regs, .int .i64 c.slots, .slice E0 c.b0.length e0, .slice E1 c.b1.length e1, .slice E2 c.b2.length e2] 32))
  go_wp2_with fail
  clear p1 p2 q1 q2 r1 r2
  have HB6 := Aside0.mk (bel_box HB5.out (.cells #[.int .i64 c.regs, .int .i64 c.slots, .slice E0 c.b0.length e0, .slice E1 c.b1.length e1, .slice E2 c.b2.length e2] 32)) ; have HP6 := Aside0.mk (blk_box HP5.out (.cells #[.int .i64 c.regs, .int .i64 c.slots, .slice E0 c.b0.length e0, .slice E1 c.b1.length e1, .slice E2 c.b2.length e2] 32)) ; have HQ6 := Aside0.mk (blk_box HQ5.out (.cells #[.int .i64 c.regs, .int .i64 c.slots, .slice E0 c.b0.length e0, .slice E1 c.b1.length e1, .slice E2 c.b2.length e2] 32)) ; have HR6 := Aside0.mk (blk_box HR5.out (.cells #[.int .i64 c.regs, .int .i64 c.slots, .slice E0 c.b0.length e0, .slice E1 c.b1.length e1, .slice E2 c.b2.length e2] 32)) ; have HC6 := Aside0.mk (al_new w5 (.cells #[.int .i64 c.regs, .int .i64 c.slots, .slice E0 c.b0.length e0, .slice E1 c.b1.length e1, .slice E2 c.b2.length e2] 32)) ; have HXC6 := Aside0.mk (HXC5.out.below (below_alloc (Below.refl w5.heap.size w5) (.cells #[.int .i64 c.regs, .int .i64 c.slots, .slice E0 c.b0.length e0, .slice E1 c.b1.length e1, .slice E2 c.b2.length e2] 32)))
  go_at_call 39
  refine (toInst _ _ x (HRD.out.2.1.below HB6.out) HZ2.out).mono ?_
  rintro e w7 ⟨u7, rfl, ho, hb⟩
  have HB7 := Aside0.mk (bel_call HB6.out hb) ; have HP7 := Aside0.mk (blk_below HP6.out hb) ; have HQ7 := Aside0.mk (blk_below HQ6.out hb) ; have HR7 := Aside0.mk (blk_below HR6.out hb) ; have HC7 := Aside0.mk (blk_below HC6.out hb) ; have HXC7 := Aside0.mk (HXC6.out.below hb) ; clear hb
  obtain ⟨F0, f0, F1, f1, F2, f2, rfl, t0, t1, t2⟩ := ho.read
  clear ho
  have HXI7 := Aside0.mk (show ReadInst w7 (.agg #[.slice F0 x.vs.length f0, .slice F1 x.qs.length f1, .slice F2 x.rs.length f2]) x from ⟨_, _, _, _, _, _, rfl, t0, t1, t2⟩); clear t0 t1 t2
  obtain ⟨p1, p2⟩ := lay (Below.refl _ _) (blk_box HP7.out (.cells #[.slice F0 x.vs.length f0, .slice F1 x.qs.length f1, .slice F2 x.rs.length f2] 55))
  obtain ⟨q1, q2⟩ := lay (Below.refl _ _) (blk_box HQ7.out (.cells #[.slice F0 x.vs.length f0, .slice F1 x.qs.length f1, .slice F2 x.rs.length f2] 55))
  obtain ⟨r1, r2⟩ := lay (Below.refl _ _) (blk_box HR7.out (.cells #[.slice F0 x.vs.length f0, .slice F1 x.qs.length f1, .slice F2 x.rs.length f2] 55))
  obtain ⟨c1, c2⟩ := lay (Below.refl _ _) (blk_box HC7.out (.cells #[.slice F0 x.vs.length f0, .slice F1 x.qs.length f1, .slice F2 x.rs.length f2] 55))
  go_wp2_with fail
  clear p1 p2 q1 q2 r1 r2 c1 c2
  have HB8 := Aside0.mk (bel_box HB7.out (.cells #[.slice F0 x.vs.length f0, .slice F1 x.qs.length f1, .slice F2 x.rs.length f2] 55)) ; have HP8 := Aside0.mk (blk_box HP7.out (.cells #[.slice F0 x.vs.length f0, .slice F1 x.qs.length f1, .slice F2 x.rs.length f2] 55)) ; have HQ8 := Aside0.mk (blk_box HQ7.out (.cells #[.slice F0 x.vs.length f0, .slice F1 x.qs.length f1, .slice F2 x.rs.length f2] 55)) ; have HR8 := Aside0.mk (blk_box HR7.out (.cells #[.slice F0 x.vs.length f0, .slice F1 x.qs.length f1, .slice F2 x.rs.length f2] 55)) ; have HC8 := Aside0.mk (blk_box HC7.out (.cells #[.slice F0 x.vs.length f0, .slice F1 x.qs.length f1, .slice F2 x.rs.length f2] 55)) ; have HI8 := Aside0.mk (al_new w7 (.cells #[.slice F0 x.vs.length f0, .slice F1 x.qs.length f1, .slice F2 x.rs.length f2] 55)) ; have HXC8 := Aside0.mk (HXC7.out.below (below_alloc (Below.refl w7.heap.size w7) (.cells #[.slice F0 x.vs.length f0, .slice F1 x.qs.length f1, .slice F2 x.rs.length f2] 55))) ; have HXI8 := Aside0.mk (HXI7.out.below (below_alloc (Below.refl w7.heap.size w7) (.cells #[.slice F0 x.vs.length f0, .slice F1 x.qs.length f1, .slice F2 x.rs.length f2] 55)))
  go_at_call 50
  refine (toState _ _ s (HRD.out.2.2.below HB8.out) HZ3.out).mono ?_
  rintro e w9 ⟨u9, rfl, ho, hb⟩
  have HB9 := Aside0.mk (bel_call HB8.out hb) ; have HP9 := Aside0.mk (blk_below HP8.out hb) ; have HQ9 := Aside0.mk (blk_below HQ8.out hb) ; have HR9 := Aside0.mk (blk_below HR8.out hb) ; have HC9 := Aside0.mk (blk_below HC8.out hb) ; have HI9 := Aside0.mk (blk_below HI8.out hb) ; have HXC9 := Aside0.mk (HXC8.out.below hb) ; have HXI9 := Aside0.mk (HXI8.out.below hb) ; clear hb
  obtain ⟨K0, k0, K1, k1, K2, k2, rfl, t0, t1, t2⟩ := ho.read
  clear ho
  have HXS9 := Aside0.mk (show ReadState w9 (.agg #[.int .i64 s.pos, .int .i64 s.rule, .int .i64 s.node, .int .i64 s.time, .int .i64 s.dist, .int .i64 s.load, .slice K0 s.s0.length k0, .slice K1 s.s1.length k1, .slice K2 s.s2.length k2]) s from ⟨_, _, _, _, _, _, rfl, t0, t1, t2⟩); clear t0 t1 t2
  obtain ⟨p1, p2⟩ := lay (Below.refl _ _) (blk_box HP9.out (.cells #[.int .i64 s.pos, .int .i64 s.rule, .int .i64 s.node, .int .i64 s.time, .int .i64 s.dist, .int .i64 s.load, .slice K0 s.s0.length k0, .slice K1 s.s1.length k1, .slice K2 s.s2.length k2] 70))
  obtain ⟨q1, q2⟩ := lay (Below.refl _ _) (blk_box HQ9.out (.cells #[.int .i64 s.pos, .int .i64 s.rule, .int .i64 s.node, .int .i64 s.time, .int .i64 s.dist, .int .i64 s.load, .slice K0 s.s0.length k0, .slice K1 s.s1.length k1, .slice K2 s.s2.length k2] 70))
  obtain ⟨r1, r2⟩ := lay (Below.refl _ _) (blk_box HR9.out (.cells #[.int .i64 s.pos, .int .i64 s.rule, .int .i64 s.node, .int .i64 s.time, .int .i64 s.dist, .int .i64 s.load, .slice K0 s.s0.length k0, .slice K1 s.s1.length k1, .slice K2 s.s2.length k2] 70))
  obtain ⟨c1, c2⟩ := lay (Below.refl _ _) (blk_box HC9.out (.cells #[.int .i64 s.pos, .int .i64 s.rule, .int .i64 s.node, .int .i64 s.time, .int .i64 s.dist, .int .i64 s.load, .slice K0 s.s0.length k0, .slice K1 s.s1.length k1, .slice K2 s.s2.length k2] 70))
  obtain ⟨i1, i2⟩ := lay (Below.refl _ _) (blk_box HI9.out (.cells #[.int .i64 s.pos, .int .i64 s.rule, .int .i64 s.node, .int .i64 s.time, .int .i64 s.dist, .int .i64 s.load, .slice K0 s.s0.length k0, .slice K1 s.s1.length k1, .slice K2 s.s2.length k2] 70))
  go_wp2_with fail
  clear p1 p2 q1 q2 r1 r2 c1 c2 i1 i2
  have HB10 := Aside0.mk (bel_box HB9.out (.cells #[.int .i64 s.pos, .int .i64 s.rule, .int .i64 s.node, .int .i64 s.time, .int .i64 s.dist, .int .i64 s.load, .slice K0 s.s0.length k0, .slice K1 s.s1.length k1, .slice K2 s.s2.length k2] 70)) ; have HP10 := Aside0.mk (blk_box HP9.out (.cells #[.int .i64 s.pos, .int .i64 s.rule, .int .i64 s.node, .int .i64 s.time, .int .i64 s.dist, .int .i64 s.load, .slice K0 s.s0.length k0, .slice K1 s.s1.length k1, .slice K2 s.s2.length k2] 70)) ; have HQ10 := Aside0.mk (blk_box HQ9.out (.cells #[.int .i64 s.pos, .int .i64 s.rule, .int .i64 s.node, .int .i64 s.time, .int .i64 s.dist, .int .i64 s.load, .slice K0 s.s0.length k0, .slice K1 s.s1.length k1, .slice K2 s.s2.length k2] 70)) ; have HR10 := Aside0.mk (blk_box HR9.out (.cells #[.int .i64 s.pos, .int .i64 s.rule, .int .i64 s.node, .int .i64 s.time, .int .i64 s.dist, .int .i64 s.load, .slice K0 s.s0.length k0, .slice K1 s.s1.length k1, .slice K2 s.s2.length k2] 70)) ; have HC10 := Aside0.mk (blk_box HC9.out (.cells #[.int .i64 s.pos, .int .i64 s.rule, .int .i64 s.node, .int .i64 s.time, .int .i64 s.dist, .int .i64 s.load, .slice K0 s.s0.length k0, .slice K1 s.s1.length k1, .slice K2 s.s2.length k2] 70)) ; have HI10 := Aside0.mk (blk_box HI9.out (.cells #[.int .i64 s.pos, .int .i64 s.rule, .int .i64 s.node, .int .i64 s.time, .int .i64 s.dist, .int .i64 s.load, .slice K0 s.s0.length k0, .slice K1 s.s1.length k1, .slice K2 s.s2.length k2] 70)) ; have HS10 := Aside0.mk (al_new w9 (.cells #[.int .i64 s.pos, .int .i64 s.rule, .int .i64 s.node, .int .i64 s.time, .int .i64 s.dist, .int .i64 s.load, .slice K0 s.s0.length k0, .slice K1 s.s1.length k1, .slice K2 s.s2.length k2] 70)) ; have HXC10 := Aside0.mk (HXC9.out.below (below_alloc (Below.refl w9.heap.size w9) (.cells #[.int .i64 s.pos, .int .i64 s.rule, .int .i64 s.node, .int .i64 s.time, .int .i64 s.dist, .int .i64 s.load, .slice K0 s.s0.length k0, .slice K1 s.s1.length k1, .slice K2 s.s2.length k2] 70))) ; have HXI10 := Aside0.mk (HXI9.out.below (below_alloc (Below.refl w9.heap.size w9) (.cells #[.int .i64 s.pos, .int .i64 s.rule, .int .i64 s.node, .int .i64 s.time, .int .i64 s.dist, .int .i64 s.load, .slice K0 s.s0.length k0, .slice K1 s.s1.length k1, .slice K2 s.s2.length k2] 70))) ; have HXS10 := Aside0.mk (HXS9.out.below (below_alloc (Below.refl w9.heap.size w9) (.cells #[.int .i64 s.pos, .int .i64 s.rule, .int .i64 s.node, .int .i64 s.time, .int .i64 s.dist, .int .i64 s.load, .slice K0 s.s0.length k0, .slice K1 s.s1.length k1, .slice K2 s.s2.length k2] 70)))
  go_at_call 51
  refine (impl_ValidState _ _ _ _ c HXC10.out x HXI10.out v s HXS10.out HZ3.out).mono ?_
  rintro e w11 ⟨rfl, hb⟩
  have HB11 := Aside0.mk (bel_call HB10.out hb) ; have HP11 := Aside0.mk (blk_below HP10.out hb) ; have HQ11 := Aside0.mk (blk_below HQ10.out hb) ; have HR11 := Aside0.mk (blk_below HR10.out hb) ; have HC11 := Aside0.mk (blk_below HC10.out hb) ; have HI11 := Aside0.mk (blk_below HI10.out hb) ; have HS11 := Aside0.mk (blk_below HS10.out hb) ; have HXC11 := Aside0.mk (HXC10.out.below hb) ; have HXI11 := Aside0.mk (HXI10.out.below hb) ; have HXS11 := Aside0.mk (HXS10.out.below hb) ; clear hb
  go_wp2_with fail
  go_region_held3 (fun w' => w'.cell? ⟨w.heap.size, 0, none⟩ = some (.int .i64 c.regs) ∧ w'.cell? ⟨w.heap.size, 1, none⟩ = some (.int .i64 c.slots) ∧ w'.cell? ⟨w.heap.size, 2, none⟩ = some (.slice A0 c.b0.length c0) ∧ w'.cell? ⟨w.heap.size, 3, none⟩ = some (.slice A1 c.b1.length c1) ∧ w'.cell? ⟨w.heap.size, 4, none⟩ = some (.slice A2 c.b2.length c2) ∧ w'.cell? ⟨w5.heap.size, 0, none⟩ = some (.int .i64 c.regs) ∧ w'.cell? ⟨w5.heap.size, 1, none⟩ = some (.int .i64 c.slots) ∧ w'.cell? ⟨w5.heap.size, 2, none⟩ = some (.slice E0 c.b0.length e0) ∧ w'.cell? ⟨w5.heap.size, 3, none⟩ = some (.slice E1 c.b1.length e1) ∧ w'.cell? ⟨w5.heap.size, 4, none⟩ = some (.slice E2 c.b2.length e2) ∧ Below w11.heap.size w11 w')
    (first | exact ⟨blk_cell HP11.out 0, blk_cell HP11.out 1, blk_cell HP11.out 2, blk_cell HP11.out 3, blk_cell HP11.out 4, blk_cell HC11.out 0, blk_cell HC11.out 1, blk_cell HC11.out 2, blk_cell HC11.out 3, blk_cell HC11.out 4, below_drew (Below.refl _ _)⟩ | exact keepC10 (by assumption) hb2 | exact keepC10 (by assumption) hb3)
    (first
      | (go_at_call 20; refine Calls.mono (toCode _ _ c ?_ HZ1.out) ?_; exact HRD.out.1.below (bel_call HB11.out (belC10 (by assumption))); rintro e y1 ⟨z1, rfl, ho, hb2⟩; replace ho := ho.read)
      | (go_at_call 22; refine (eqCode _ _ _ c (HXC11.out.below (belC10 (by assumption))) ho HZ1.out).mono ?_; rintro e w12 ⟨rfl, hb3⟩))
  rename_i hH
  replace hH := belC10 hH
  have HB12 := Aside0.mk (bel_call HB11.out hH) ; have HP12 := Aside0.mk (blk_below HP11.out hH) ; have HQ12 := Aside0.mk (blk_below HQ11.out hH) ; have HR12 := Aside0.mk (blk_below HR11.out hH) ; have HC12 := Aside0.mk (blk_below HC11.out hH) ; have HI12 := Aside0.mk (blk_below HI11.out hH) ; have HS12 := Aside0.mk (blk_below HS11.out hH) ; have HXC12 := Aside0.mk (HXC11.out.below hH) ; have HXI12 := Aside0.mk (HXI11.out.below hH) ; have HXS12 := Aside0.mk (HXS11.out.below hH) ; clear hH
  go_wp2_with fail
  go_region_held3 (fun w' => w'.cell? ⟨w.heap.size + 1, 0, none⟩ = some (.slice B0 x.vs.length d0) ∧ w'.cell? ⟨w.heap.size + 1, 1, none⟩ = some (.slice B1 x.qs.length d1) ∧ w'.cell? ⟨w.heap.size + 1, 2, none⟩ = some (.slice B2 x.rs.length d2) ∧ w'.cell? ⟨w7.heap.size, 0, none⟩ = some (.slice F0 x.vs.length f0) ∧ w'.cell? ⟨w7.heap.size, 1, none⟩ = some (.slice F1 x.qs.length f1) ∧ w'.cell? ⟨w7.heap.size, 2, none⟩ = some (.slice F2 x.rs.length f2) ∧ Below w12.heap.size w12 w')
    (first | exact ⟨blk_cell HQ12.out 0, blk_cell HQ12.out 1, blk_cell HQ12.out 2, blk_cell HI12.out 0, blk_cell HI12.out 1, blk_cell HI12.out 2, below_drew (Below.refl _ _)⟩ | exact keepC6 (by assumption) hb2 | exact keepC6 (by assumption) hb3)
    (first
      | (go_at_call 39; refine Calls.mono (toInst _ _ x ?_ HZ2.out) ?_; exact HRD.out.2.1.below (bel_call HB12.out (belC6 (by assumption))); rintro e y1 ⟨z1, rfl, ho, hb2⟩; replace ho := ho.read)
      | (go_at_call 41; refine (eqInst _ _ _ x (HXI12.out.below (belC6 (by assumption))) ho HZ2.out).mono ?_; rintro e w13 ⟨rfl, hb3⟩))
  rename_i hH
  replace hH := belC6 hH
  have HB13 := Aside0.mk (bel_call HB12.out hH) ; have HP13 := Aside0.mk (blk_below HP12.out hH) ; have HQ13 := Aside0.mk (blk_below HQ12.out hH) ; have HR13 := Aside0.mk (blk_below HR12.out hH) ; have HC13 := Aside0.mk (blk_below HC12.out hH) ; have HI13 := Aside0.mk (blk_below HI12.out hH) ; have HS13 := Aside0.mk (blk_below HS12.out hH) ; have HXC13 := Aside0.mk (HXC12.out.below hH) ; have HXI13 := Aside0.mk (HXI12.out.below hH) ; have HXS13 := Aside0.mk (HXS12.out.below hH) ; clear hH
  go_wp2_with fail
  go_region_held3 (fun w' => w'.cell? ⟨w.heap.size + 1 + 1, 0, none⟩ = some (.int .i64 s.pos) ∧ w'.cell? ⟨w.heap.size + 1 + 1, 1, none⟩ = some (.int .i64 s.rule) ∧ w'.cell? ⟨w.heap.size + 1 + 1, 2, none⟩ = some (.int .i64 s.node) ∧ w'.cell? ⟨w.heap.size + 1 + 1, 3, none⟩ = some (.int .i64 s.time) ∧ w'.cell? ⟨w.heap.size + 1 + 1, 4, none⟩ = some (.int .i64 s.dist) ∧ w'.cell? ⟨w.heap.size + 1 + 1, 5, none⟩ = some (.int .i64 s.load) ∧ w'.cell? ⟨w.heap.size + 1 + 1, 6, none⟩ = some (.slice S0 s.s0.length g0) ∧ w'.cell? ⟨w.heap.size + 1 + 1, 7, none⟩ = some (.slice S1 s.s1.length g1) ∧ w'.cell? ⟨w.heap.size + 1 + 1, 8, none⟩ = some (.slice S2 s.s2.length g2) ∧ w'.cell? ⟨w9.heap.size, 0, none⟩ = some (.int .i64 s.pos) ∧ w'.cell? ⟨w9.heap.size, 1, none⟩ = some (.int .i64 s.rule) ∧ w'.cell? ⟨w9.heap.size, 2, none⟩ = some (.int .i64 s.node) ∧ w'.cell? ⟨w9.heap.size, 3, none⟩ = some (.int .i64 s.time) ∧ w'.cell? ⟨w9.heap.size, 4, none⟩ = some (.int .i64 s.dist) ∧ w'.cell? ⟨w9.heap.size, 5, none⟩ = some (.int .i64 s.load) ∧ w'.cell? ⟨w9.heap.size, 6, none⟩ = some (.slice K0 s.s0.length k0) ∧ w'.cell? ⟨w9.heap.size, 7, none⟩ = some (.slice K1 s.s1.length k1) ∧ w'.cell? ⟨w9.heap.size, 8, none⟩ = some (.slice K2 s.s2.length k2) ∧ Below w13.heap.size w13 w')
    (first | exact ⟨blk_cell HR13.out 0, blk_cell HR13.out 1, blk_cell HR13.out 2, blk_cell HR13.out 3, blk_cell HR13.out 4, blk_cell HR13.out 5, blk_cell HR13.out 6, blk_cell HR13.out 7, blk_cell HR13.out 8, blk_cell HS13.out 0, blk_cell HS13.out 1, blk_cell HS13.out 2, blk_cell HS13.out 3, blk_cell HS13.out 4, blk_cell HS13.out 5, blk_cell HS13.out 6, blk_cell HS13.out 7, blk_cell HS13.out 8, below_drew (Below.refl _ _)⟩ | exact keepC18 (by assumption) hb2 | exact keepC18 (by assumption) hb3)
    (first
      | (go_at_call 50; refine Calls.mono (toState _ _ s ?_ HZ3.out) ?_; exact HRD.out.2.2.below (bel_call HB13.out (belC18 (by assumption))); rintro e y1 ⟨z1, rfl, ho, hb2⟩; replace ho := ho.read)
      | (go_at_call 52; refine (eqState _ _ _ s (HXS13.out.below (belC18 (by assumption))) ho HZ3.out).mono ?_; rintro e w14 ⟨rfl, hb3⟩))
  rename_i hH
  replace hH := belC18 hH
  have HB14 := Aside0.mk (bel_call HB13.out hH) ; have HP14 := Aside0.mk (blk_below HP13.out hH) ; have HQ14 := Aside0.mk (blk_below HQ13.out hH) ; have HR14 := Aside0.mk (blk_below HR13.out hH) ; have HC14 := Aside0.mk (blk_below HC13.out hH) ; have HI14 := Aside0.mk (blk_below HI13.out hH) ; have HS14 := Aside0.mk (blk_below HS13.out hH) ; have HXC14 := Aside0.mk (HXC13.out.below hH) ; have HXI14 := Aside0.mk (HXI13.out.below hH) ; have HXS14 := Aside0.mk (HXS13.out.below hH) ; clear hH
  go_wp2
  go_ret
  exact ⟨rfl, HB14.out⟩
end
end Go.Proofs.Ytmjpajaeffhdeaa.L1
