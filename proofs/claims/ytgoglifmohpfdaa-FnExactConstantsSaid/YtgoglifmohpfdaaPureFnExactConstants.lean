/- The law FnExactConstants answers true, for there is nothing to ask: the constants agree. No condition. -/
import Derived.Test.YtgoglifmohpfdaaPFnExactConstantsx1
namespace Go.Proofs.Ytgoglifmohpfdaa.Pure
open Go.RowKit Go.Proofs.Ytgoglifmohpfdaa.PFnExactConstants Go.Proofs.YtgoglifmohpfdaaW.PrintWords Go.Proofs.YtgoglifmohpfdaaW.PrintLast

theorem FnExactConstants : laws_FnExactConstants.Pure := by
  rfl

end Go.Proofs.Ytgoglifmohpfdaa.Pure
