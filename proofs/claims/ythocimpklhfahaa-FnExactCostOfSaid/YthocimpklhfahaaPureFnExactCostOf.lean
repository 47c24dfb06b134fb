/- The law FnExactCostOf answers true for every rule and list. No condition beyond the row's own. -/
import Derived.Test.YthocimpklhfahaaStFnExactCostOf
import Derived.Test.YthocimpklhfahaaAllSpec
import Derived.Test.YthocimpklhfahaaInts
import Derived.Test.YthocimpklhfahaaAppCalls
namespace Go.Proofs.Ythocimpklhfahaa.P
open Go.RowKit Go.Proofs.YthocimpklhfahaaW.PrintWords Go.Proofs.YthocimpklhfahaaW.PrintLast Go.Proofs.YthocimpklhfahaaW.PrintMore
set_option linter.unusedVariables false
set_option linter.unusedSimpArgs false
theorem FnExactCostOf_ok : FnExactCostOfPure := by
  intro r0 r1 r2 l _ _ _ hl
  by_cases hlen : (l.length : Int) > 1048576
  · exact ⟨0, by simp only [laws_FnExactCostOf.f]; rw [if_pos hlen]⟩
  · obtain ⟨K1, h1⟩ := toInts l (by omega)
    obtain ⟨K2, h2⟩ := eqInts l (by omega)
    obtain ⟨K3, h3⟩ := spec_all r0 r1 r2 l (fun n hn => wf64 (hl.2 n hn))
    obtain ⟨q1, q2⟩ := impl_all (fun (b : Unit) _ _ _ _ => b) r0 r1 r2 l ()
    dsimp only at h1 h2 h3
    obtain ⟨K, hK⟩ : ∃ K, K = K1 + K2 + K3 := ⟨_, rfl⟩
    refine ⟨K + 1, ?_⟩
    have e1 := h1 (K + 1) (by omega); have e2 := h1 K (by omega); have e3 := h2 K (by omega); have e4 := h3 (K + 1) (by omega)
    simp only [laws_FnExactCostOf.f, laws_toGrowRule.f, Option.bind_some, e1, spec_CostOf.f, e4]
    rw [if_neg hlen]
    unfold impl_CostOf.f
    cases ev : allC r0 r1 r2 l with
    | none =>
      obtain ⟨b', e5⟩ := q2 ev
      rw [e5]
      simp [allR, laws_FnExactCostOf.j0, e2, e3]
    | some vs =>
      have e5 := q1 vs ev
      rw [e5]
      simp [allR, laws_FnExactCostOf.j0, e2, e3]
end Go.Proofs.Ythocimpklhfahaa.P
