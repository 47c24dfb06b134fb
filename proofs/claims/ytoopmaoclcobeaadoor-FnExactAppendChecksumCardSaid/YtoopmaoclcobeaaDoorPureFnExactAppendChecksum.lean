/- The law FnExactAppendChecksum answers true for every input. No condition beyond the row's own. -/
import Derived.Test.YtoopmaoclcobeaaDoorStFnExactAppendChecksum
import Derived.Test.YtoopmaoclcobeaaDoorSealP
namespace Go.Proofs.YtoopmaoclcobeaaDoor.P
open Go.RowKit Go.Proofs.YtoopmaoclcobeaaDoorW.PrintWords Go.Proofs.YtoopmaoclcobeaaDoorW.PrintLast Go.Proofs.YtoopmaoclcobeaaDoorW.PrintMore
set_option linter.unusedVariables false
set_option linter.unusedSimpArgs false
theorem FnExactAppendChecksum_ok : FnExactAppendChecksumPure := by
  intro x w0
  by_cases h : (x.size : Int) > 1048576
  · exact ⟨0, by rw [laws_FnExactAppendChecksum.f, if_pos h]⟩
  · obtain ⟨r, hr, hr2, h0, h1⟩ := sum_ev x (by omega)
    obtain ⟨K1, e1⟩ := app_spec x (by omega) hr h0 h1
    obtain ⟨K2, e2⟩ := app_impl x (by omega) hr2 h0 h1
    have e1 := e1 (K1 + K2) (by omega)
    have e2 := e2 (K1 + K2) (by omega)
    dsimp only at e1 e2
    refine ⟨K1 + K2, ?_⟩
    rw [laws_FnExactAppendChecksum.f, if_neg h, e1, Option.bind_some, e2, Option.bind_some, if_pos rfl]
    simp
end Go.Proofs.YtoopmaoclcobeaaDoor.P
