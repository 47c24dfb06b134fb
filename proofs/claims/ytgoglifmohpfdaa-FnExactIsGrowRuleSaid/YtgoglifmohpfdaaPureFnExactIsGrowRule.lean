/- The law FnExactIsGrowRule answers true for every rule: both tests are one. No condition beyond the row's own. -/
import Derived.Test.YtgoglifmohpfdaaStFnExactIsGrowRule
import Derived.Test.YtgoglifmohpfdaaRule
namespace Go.Proofs.Ytgoglifmohpfdaa.P
open Go.RowKit Go.Proofs.YtgoglifmohpfdaaW.PrintWords Go.Proofs.YtgoglifmohpfdaaW.PrintLast Go.Proofs.YtgoglifmohpfdaaW.PrintMore
theorem FnExactIsGrowRule_ok : FnExactIsGrowRulePure := by
  intro a b c _ _ _
  simp only [laws_FnExactIsGrowRule.f, laws_toGrowRule.f, spec_IsGrowRule.f, l4Rule_eq, isRule_eq, Option.bind_some]
  simp
end Go.Proofs.Ytgoglifmohpfdaa.P
