/- The law FnExactGrowsFast answers true for every rule. No condition beyond the row's own. -/
import Derived.Test.YtgoglifmohpfdaaStFnExactGrowsFast
import Derived.Test.YtgoglifmohpfdaaRule
namespace Go.Proofs.Ytgoglifmohpfdaa.P
open Go.RowKit Go.Proofs.YtgoglifmohpfdaaW.PrintWords Go.Proofs.YtgoglifmohpfdaaW.PrintLast Go.Proofs.YtgoglifmohpfdaaW.PrintMore
theorem FnExactGrowsFast_ok : FnExactGrowsFastPure := by
  intro a b c _ _ _
  simp only [laws_FnExactGrowsFast.f, laws_toGrowRule.f, spec_GrowsFast.f, impl_GrowsFast.f, l4Rule_eq, isRule_eq, Option.bind_some]
  cases ruleOk a b c <;> simp
end Go.Proofs.Ytgoglifmohpfdaa.P
