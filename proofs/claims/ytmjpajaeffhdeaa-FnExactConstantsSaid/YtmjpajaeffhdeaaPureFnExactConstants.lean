/- Every constant of the program that the law names has the value that the reference gives it. Conditions: none. -/
import Derived.Test.YtmjpajaeffhdeaaPFnExactConstantsx1
namespace Go.Proofs.Ytmjpajaeffhdeaa.Pure
open Go.RowKit Go.Proofs.Ytmjpajaeffhdeaa.PFnExactConstants Go.Proofs.YtmjpajaeffhdeaaW.PrintWords Go.Proofs.YtmjpajaeffhdeaaW.PrintLast

theorem FnExactConstants : laws_FnExactConstants.Pure := by
  unfold laws_FnExactConstants.Pure laws_FnExactConstants.f
  simp

end Go.Proofs.Ytmjpajaeffhdeaa.Pure
