/- Is a route good, as the program tells it: slices.ContainsFunc over a closure. -/
import Derived.Test.YtmjpajaeffhdeaaL2d
import Derived.Shelf.Abstract
namespace Go.Proofs.Ytmjpajaeffhdeaa.L1
open Go.RowKit Go.Proofs.YtmjpajaeffhdeaaW.PrintWords Go.Proofs.Ytmjpajaeffhdeaa.B
set_option linter.unusedVariables false
set_option linter.unusedSimpArgs false
attribute [local go_sem] mk_cell mk_frozen
/-- What is asked of a closure over whole numbers: an answer, memory only made. -/
def PredB (g : Nat) (lb : Array Value) (p : Int → Bool) (w : World) : Prop :=
  ∀ (W : World) (n : Int), Below w.heap.size w W → Calls Try.prog g (#[.int .i64 n] ++ lb) W fun e w' => e = .returned (.bool (p n)) ∧ Below W.heap.size W w'
section
variable (w : World)
set_option maxHeartbeats 1000000 in
theorem indexFunc (g : Nat) (lb : Array Value) (eg : ∀ args w, (callFunc g args).run Try.prog w = .ok (.enter g args) w) (p : Int → Bool) (R : Option Addr) (rc : Nat) (xs : List Int) (hr : kInt.C w R xs.length xs) (hp : PredB g lb p w) :
    Calls Try.prog 153 #[.slice R xs.length rc, .func (.func g) #[] lb] w fun e w' => (∃ r : Int, e = .returned (.int .i64 r) ∧ decide (0 ≤ r) = !(allI xs.length fun k => !p (xs.getD k 0))) ∧ Below w.heap.size w w' := by
  have hml := hr.2.1
  have HR := Aside0.mk hr; have HP := Aside0.mk hp; clear hr hp
  go_enter Try.func153, Try.ntmps153
  go_wp2_with fail
  go_loopg [5, 8] (xs.length + 1) (fun q _ v8 wr => ∃ k, q = xs.length + 1 - k ∧ k ≤ xs.length ∧ v8 = .int .i64 k ∧ Aside0 (∀ j, j < k → p (xs.getD j 0) = false) ∧ Aside0 (Below w.heap.size w wr))
  case atStart => exact ⟨0, by omega, by omega, rfl, ⟨fun j hj => absurd hj (Nat.not_lt_zero _)⟩, ⟨Below.refl _ _⟩⟩
  case round =>
    obtain ⟨k, rfl, hk, rfl, HN, HB⟩ := hrel
    by_cases hlt : k < xs.length
    · obtain ⟨ad, e0, t0, t1⟩ := Kd.flat_cells (d := kInt) rfl (Kd.C_below HR.out HB.out) 0 k hlt
      cases e0
      have z3 := t0 _ rfl; simp only [Nat.mul_one] at z3
      clear t0 t1
      generalize hy : xs.getD k 0 = y at z3
      have HY := Aside0.mk hy; clear hy
      have hcall := HP.out wr y HB.out
      cases hq : p y with
      | true =>
        rw [hq] at hcall
        have HL := Aside0.mk (show (!(allI xs.length fun k => !p (xs.getD k 0))) = true by rw [allI_false hlt (by rw [HY.out, hq]; rfl)]; rfl)
        go_wp2_with fail
        refine hcall.mono ?_; rintro e w' ⟨rfl, hb⟩
        clear HP hcall
        go_wp2
        go_ret
        exact ⟨⟨(k : Int), rfl, by rw [HL.out]; simp⟩, bel_call HB.out hb⟩
      | false =>
        rw [hq] at hcall
        have HN1 := Aside0.mk (show ∀ j, j < k + 1 → p (xs.getD j 0) = false from fun j hj => by
          rcases Nat.lt_or_ge j k with h | h
          · exact HN.out j h
          · rw [show j = k by omega, HY.out]; exact hq)
        go_wp2_with fail
        refine hcall.mono ?_; rintro e w' ⟨rfl, hb⟩
        clear HP hcall
        go_wp2
        have HB1 := Aside0.mk (bel_call HB.out hb); clear hb
        go_roundg (xs.length + 1 - (k + 1))
        case measure => omega
        case rel => exact ⟨k + 1, rfl, hlt, by go_num, HN1, HB1⟩
    · have HL := Aside0.mk (show (!(allI xs.length fun k => !p (xs.getD k 0))) = false by rw [allI_iff.2 fun j hj => by rw [HN.out j (by omega)]; rfl]; rfl)
      go_wp2
      go_ret
      exact ⟨⟨-1, rfl, by rw [HL.out]; rfl⟩, HB.out⟩
theorem containsFunc (g : Nat) (lb : Array Value) (eg : ∀ args w, (callFunc g args).run Try.prog w = .ok (.enter g args) w) (p : Int → Bool) (R : Option Addr) (rc : Nat) (xs : List Int) (hr : kInt.C w R xs.length xs) (hp : PredB g lb p w) :
    Calls Try.prog 133 #[.slice R xs.length rc, .func (.func g) #[] lb] w fun e w' => e = .returned (.bool (!(allI xs.length fun k => !p (xs.getD k 0)))) ∧ Below w.heap.size w w' := by
  have hc := indexFunc w g lb eg p R rc xs hr hp
  go_enter Try.func133, Try.ntmps133
  go_wp2_with (go_at_call 153; refine hc.mono ?_; rintro e w' ⟨⟨r, rfl, h0⟩, hb⟩; have H := Aside0.mk h0; clear h0)
  go_ret
  exact ⟨by show Ending.returned (Value.bool (decide (0 ≤ r))) = _; rw [H.out], hb⟩
set_option maxRecDepth 100000 in
set_option maxHeartbeats 2000000 in
theorem impl_goodRoute1 (x : Inst) (hs : x.small) (n : Int) (B : Nat) (A0 A1 A2 : Option Addr) (c0 c1 c2 : Nat) (hB : w.heap[B]? = some (.cells #[.slice A0 x.vs.length c0, .slice A1 x.qs.length c1, .slice A2 x.rs.length c2] 55 (0, 0))) :
    Calls Try.prog 134 #[.int .i64 n, .pointer (some ⟨B, 0, none⟩)] w fun e w' => e = .returned (.bool (!x.stop n)) ∧ Below w.heap.size w w' := by
  have HS := Aside0.mk hs
  obtain ⟨n0, n1, n2⟩ := hs
  have q0 : IntKind.i64.wrap (x.nodes - 1) = x.nodes - 1 := IntWalk.i64_in _ (by unfold Inst.nodes; omega)
  have z0 := blk_cell hB 0; have z1 := blk_cell hB 1; have z2 := blk_cell hB 2
  simp only [List.getElem?_toArray, List.getElem?_cons_zero, List.getElem?_cons_succ] at z0 z1 z2
  have HB := Aside0.mk hB; clear hB
  go_enter Try.func134, Try.ntmps134
  go_wp2_with fail
  refine Grow.wp_region_growB (by kernel_rfl) (by kernel_rfl) ?_
  repeat ((first | (refine Grow.lex_skip (by rfl) ?_) | (refine Grow.lex_do _ (by rfl) (by intro W hj; have t0 := pw_cell_below hj.out z0; have t1 := pw_cell_below hj.out z1; have t2 := pw_cell_below hj.out z2; go_simp; first | exact Grow.Upon.val hj | (have c := impl_nodes W A0 A1 A2 x.vs.length x.qs.length x.rs.length c0 c1 c2 n0 n1; rw [show (x.vs.length : Int) + 2 * (x.qs.length : Int) = x.nodes from rfl] at c; with_reducible exact Grow.Upon.callB hj c) | with_reducible exact Grow.Upon.callB hj (impl_vehicles W A0 A1 A2 x.vs.length x.qs.length x.rs.length c0 c1 c2 n0) | with_reducible exact Grow.Upon.callB hj ((impl_within W n x.vs.length (x.nodes - 1)).mono fun e w' h => ⟨h.1, h.2 ▸ Below.refl _ _⟩)) ?_)); refine Grow.lex_norm (fun K hK => ?_); go_simp; refine hK _ ?_; clear hK K)
  refine Grow.lex_nil (fun W hj => ?_)
  have HB1 := Aside0.mk hj.out; clear hj z0 z1 z2
  go_wp2
  go_ret
  exact ⟨by unfold Inst.stop; cases inB n (x.vs.length) (x.nodes - 1) <;> rfl, HB1.out⟩
def Inst.roadOk (x : Inst) (xs : List Int) : Bool := decide (xs.length ≤ 4096) && x.stops xs
set_option maxRecDepth 100000 in
set_option maxHeartbeats 2000000 in
theorem impl_goodRoute (u r : Value) (x : Inst) (hr : ReadInst w u x) (hs : x.small) (xs : List Int) (hx : ReadInts w r xs) : Calls Try.prog 99 #[u, r] w fun e w' => e = .returned (.bool (x.roadOk xs)) ∧ Below w.heap.size w w' := by
  obtain ⟨A0, c0, A1, c1, A2, c2, rfl, r0, r1, r2⟩ := hr
  clear r0 r1 r2
  obtain ⟨R, rc, rfl, hR⟩ := hx
  have hml := hR.2.1
  have HB := Aside0.mk (below_alloc (Below.refl w.heap.size w) (.cells #[.slice A0 x.vs.length c0, .slice A1 x.qs.length c1, .slice A2 x.rs.length c2] 55)); have HA := Aside0.mk (al_new w (.cells #[.slice A0 x.vs.length c0, .slice A1 x.qs.length c1, .slice A2 x.rs.length c2] 55))
  have eg : ∀ args w, (callFunc 134 args).run Try.prog w = .ok (.enter 134 args) w := enters_of Try.func134 (by kernel_rfl) rfl
  have hc := containsFunc (w.alloc (.cells #[.slice A0 x.vs.length c0, .slice A1 x.qs.length c1, .slice A2 x.rs.length c2] 55)) 134 #[.pointer (some ⟨w.heap.size, 0, none⟩)] eg (fun n => !x.stop n) R rc xs (Kd.C_below hR HB.out) (fun W n hb => impl_goodRoute1 W x hs n w.heap.size A0 A1 A2 c0 c1 c2 (blk_below HA.out hb))
  rw [show (allI xs.length fun k => !(fun n => !x.stop n) (xs.getD k 0)) = x.stops xs from allI_congr fun k hk => by simp] at hc
  have HC := Aside0.mk hc; clear hc hR eg
  by_cases hl : xs.length ≤ 4096
  · have HL := Aside0.mk (show x.roadOk xs = x.stops xs by unfold Inst.roadOk; rw [decide_eq_true hl]; rfl)
    have p0 : decide ((xs.length : Int) ≤ 4096) = true := by simp; omega
    go_enter Try.func99, Try.ntmps99
    go_wp2_with fail
    go_at_call 133
    refine HC.out.mono ?_
    rintro e w1 ⟨rfl, hb⟩
    have HB1 := Aside0.mk (bel_call HB.out hb); clear hb
    cases hst : x.stops xs with
    | false =>
      have HT := Aside0.mk hst; clear hst
      go_wp2
      go_ret
      exact ⟨by rw [HL.out, HT.out]; rfl, HB1.out⟩
    | true =>
      have HT := Aside0.mk hst; clear hst
      go_wp2
      go_ret
      exact ⟨by rw [HL.out, HT.out]; rfl, HB1.out⟩
  · have HL := Aside0.mk (show x.roadOk xs = false by unfold Inst.roadOk; rw [decide_eq_false hl]; rfl)
    have p0 : decide ((xs.length : Int) ≤ 4096) = false := by simp; omega
    go_enter Try.func99, Try.ntmps99
    go_wp2_with fail
    go_ret
    exact ⟨by rw [HL.out]; rfl, HB.out⟩
end
end Go.Proofs.Ytmjpajaeffhdeaa.L1
