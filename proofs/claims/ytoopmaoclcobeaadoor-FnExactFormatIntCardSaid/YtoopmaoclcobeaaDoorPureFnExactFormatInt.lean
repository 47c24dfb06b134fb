/- The law FnExactFormatInt answers true for every input. No condition beyond the row's own. -/
import Derived.Test.YtoopmaoclcobeaaDoorStFnExactFormatInt
import Derived.Test.YtoopmaoclcobeaaDoorNumP
import Derived.Test.YtoopmaoclcobeaaDoorBase
namespace Go.Proofs.YtoopmaoclcobeaaDoor.P
open Go.RowKit Go.Proofs.YtoopmaoclcobeaaDoorW.PrintWords Go.Proofs.YtoopmaoclcobeaaDoorW.PrintLast Go.Proofs.YtoopmaoclcobeaaDoorW.PrintMore
set_option linter.unusedVariables false
set_option linter.unusedSimpArgs false
theorem FnExactFormatInt_ok : FnExactFormatIntPure := by
  intro n w0
  obtain ⟨h0, h1⟩ := wf64 w0
  obtain ⟨K, hK⟩ := num_ev n h0 h1
  have e := hK K (Nat.le_refl _)
  dsimp only at e
  refine ⟨K, ?_⟩
  rw [laws_FnExactFormatInt.f, spec_FormatInt.f, impl_FormatInt.f, l1In_eq, within_eq, e, itoa_eq n h0 h1]
  cases inB n (-999999) 999999 <;> simp
end Go.Proofs.YtoopmaoclcobeaaDoor.P
