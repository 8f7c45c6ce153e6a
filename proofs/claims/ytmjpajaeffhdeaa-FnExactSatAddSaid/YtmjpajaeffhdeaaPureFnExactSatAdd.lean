/- SatAdd of the program answers as SatAdd of the reference, for all arguments of type int64. Conditions: none. -/
import Derived.Test.YtmjpajaeffhdeaaPFnExactSatAddx1
namespace Go.Proofs.Ytmjpajaeffhdeaa.Pure
open Go.RowKit Go.Proofs.Ytmjpajaeffhdeaa.PFnExactSatAdd Go.Proofs.YtmjpajaeffhdeaaW.PrintWords Go.Proofs.YtmjpajaeffhdeaaW.PrintLast

theorem clamp_eq (a : Int) : spec_l1Clamp.f a = impl_clamp.f a := by
  unfold spec_l1Clamp.f impl_clamp.f mx mn
  (repeat' split) <;> first | rfl | (exfalso; omega) | (congr 1; omega)

theorem FnExactSatAdd : laws_FnExactSatAdd.Pure := by
  intro a b _ _
  have h : ∀ x, ∃ y, impl_clamp.f x = some y := fun x => ⟨_, rfl⟩
  unfold laws_FnExactSatAdd.f spec_SatAdd.f impl_SatAdd.f
  simp only [clamp_eq]
  obtain ⟨x, hx⟩ := h a
  obtain ⟨y, hy⟩ := h b
  obtain ⟨z, hz⟩ := h (wrap64 (x + y))
  simp [hx, hy, hz]

end Go.Proofs.Ytmjpajaeffhdeaa.Pure
