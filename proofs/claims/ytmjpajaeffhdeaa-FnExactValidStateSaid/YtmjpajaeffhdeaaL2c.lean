/- Is a route good, as the reference and the program tell it. -/
import Derived.Test.YtmjpajaeffhdeaaL2b
namespace Go.Proofs.Ytmjpajaeffhdeaa.L1
open Go.RowKit Go.Proofs.YtmjpajaeffhdeaaW.PrintWords Go.Proofs.Ytmjpajaeffhdeaa.B
set_option linter.unusedVariables false
set_option linter.unusedSimpArgs false
attribute [local go_sem] mk_cell mk_frozen
section
variable (w : World)
set_option maxRecDepth 100000 in
set_option maxHeartbeats 2000000 in
theorem spec_stop (u : Value) (x : Inst) (hr : ReadInst w u x) (hs : x.small) (n : Int) : Calls Try.prog 103 #[u, .int .i64 n] w fun e w' => e = .returned (.bool (inB n x.vs.length (x.nodes - 1))) ∧ Below w.heap.size w w' := by
  obtain ⟨A0, c0, A1, c1, A2, c2, rfl, r0, r1, r2⟩ := hr
  clear r0 r1 r2
  obtain ⟨n0, n1, n2⟩ := hs
  have HB := Aside0.mk (below_alloc (Below.refl w.heap.size w) (.cells #[.slice A0 x.vs.length c0, .slice A1 x.qs.length c1, .slice A2 x.rs.length c2] 55)); have HA := Aside0.mk (al_new w (.cells #[.slice A0 x.vs.length c0, .slice A1 x.qs.length c1, .slice A2 x.rs.length c2] 55))
  go_enter Try.func103, Try.ntmps103
  go_wp2_with fail
  have q0 : IntKind.i64.wrap (x.nodes - 1) = x.nodes - 1 := IntWalk.i64_in _ (by unfold Inst.nodes; omega)
  have z0 := blk_cell HA.out 0; have z1 := blk_cell HA.out 1; have z2 := blk_cell HA.out 2
  simp only [List.getElem?_toArray, List.getElem?_cons_zero, List.getElem?_cons_succ] at z0 z1 z2
  refine Grow.wp_region_growB (by kernel_rfl) (by kernel_rfl) ?_
  repeat ((first | (refine Grow.lex_skip (by rfl) ?_) | (refine Grow.lex_do _ (by rfl) (by intro W hj; have t0 := pw_cell_below hj.out z0; have t1 := pw_cell_below hj.out z1; have t2 := pw_cell_below hj.out z2; go_simp; first | exact Grow.Upon.val hj | (have c := spec_nodes W A0 A1 A2 x.vs.length x.qs.length x.rs.length c0 c1 c2 n0 n1; rw [show (x.vs.length : Int) + 2 * (x.qs.length : Int) = x.nodes from rfl] at c; with_reducible exact Grow.Upon.callB hj c) | with_reducible exact Grow.Upon.callB hj ((spec_l1In W n x.vs.length (x.nodes - 1)).mono fun e w' h => ⟨h.1, h.2 ▸ Below.refl _ _⟩)) ?_)); refine Grow.lex_norm (fun K hK => ?_); go_simp; refine hK _ ?_; clear hK K)
  refine Grow.lex_nil (fun W hj => ?_)
  have HB1 := Aside0.mk (bel_call HB.out hj.out); clear hj z0 z1 z2
  go_wp2
  go_ret
  exact ⟨rfl, HB1.out⟩
end
end Go.Proofs.Ytmjpajaeffhdeaa.L1
