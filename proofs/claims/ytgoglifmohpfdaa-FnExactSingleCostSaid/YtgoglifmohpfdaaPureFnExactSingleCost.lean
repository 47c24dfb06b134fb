/- The law FnExactSingleCost answers true for every rule and number. No condition beyond the row's own. -/
import Derived.Test.YtgoglifmohpfdaaStFnExactSingleCost
import Derived.Test.YtgoglifmohpfdaaSingle
namespace Go.Proofs.Ytgoglifmohpfdaa.P
open Go.RowKit Go.Proofs.YtgoglifmohpfdaaW.PrintWords Go.Proofs.YtgoglifmohpfdaaW.PrintLast Go.Proofs.YtgoglifmohpfdaaW.PrintMore
set_option linter.unusedVariables false
set_option linter.unusedSimpArgs false
theorem FnExactSingleCost_ok : FnExactSingleCostPure := by
  intro r0 r1 r2 n _ _ _ _
  obtain ⟨w, l, c, K1, h1⟩ := spec_singles r0 r1 r2 n
  obtain ⟨l2, c2, K2, h2⟩ := impl_singles_ev r0 r1 r2 n
  dsimp only at h1 h2
  have e1 := h1 (K1 + K2) (by omega)
  have e2 := h2 (K1 + K2) (by omega)
  refine ⟨K1 + K2, ?_⟩
  simp only [laws_FnExactSingleCost.f, laws_toGrowRule.f, Option.bind_some, spec_SingleCost.f, impl_SingleCost.f, e1, e2, if_true, bne_self_eq_false, Bool.false_eq_true, if_false]
end Go.Proofs.Ytgoglifmohpfdaa.P
