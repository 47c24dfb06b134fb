/- The law FnExactLessString answers true for every two strings: the program's LessString and the reference's are one comparison. No condition beyond the row's own. -/
import Derived.Test.YtgoglifmohpfdaaPFnExactLessStringx1
namespace Go.Proofs.Ytgoglifmohpfdaa.Pure
open Go.RowKit Go.Proofs.Ytgoglifmohpfdaa.PFnExactLessString Go.Proofs.YtgoglifmohpfdaaW.PrintWords Go.Proofs.YtgoglifmohpfdaaW.PrintLast

theorem FnExactLessString : laws_FnExactLessString.Pure := by
  intro a0 a1 _ _
  unfold laws_FnExactLessString.f spec_LessString.f impl_LessString.f
  simp

end Go.Proofs.Ytgoglifmohpfdaa.Pure
