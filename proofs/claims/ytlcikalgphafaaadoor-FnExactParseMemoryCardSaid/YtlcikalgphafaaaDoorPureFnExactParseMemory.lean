/- The law FnExactParseMemory answers true for every input. No condition beyond the row's own. -/
import Derived.Test.YtlcikalgphafaaaDoorStFnExactParseMemory
import Derived.Test.YtlcikalgphafaaaDoorParseP
import Derived.Test.YtlcikalgphafaaaDoorMemQ
import Derived.Test.YtlcikalgphafaaaDoorMkBytes
import Derived.Test.YtlcikalgphafaaaDoorHeldMem
namespace Go.Proofs.YtlcikalgphafaaaDoor.P
open Go.RowKit Go.Proofs.YtlcikalgphafaaaDoorW.PrintWords Go.Proofs.YtlcikalgphafaaaDoorW.PrintLast Go.Proofs.YtlcikalgphafaaaDoorW.PrintMore
set_option linter.unusedVariables false
set_option linter.unusedSimpArgs false
theorem FnExactParseMemory_ok : FnExactParseMemoryTrue := by
  intro s w _ HTB
  by_cases hb : 1048576 < s.size
  · exact laws_FnExactParseMemory.exit1 0 s w hb
  · obtain ⟨⟨g, ok⟩, hsm, ⟨K1, e1⟩, ⟨K2, e2⟩⟩ := memory_both s (by omega)
    obtain ⟨K3, e3⟩ := eqMem g hsm.fit
    obtain ⟨K4, e4⟩ := markMem g 1 hsm (by omega) (by omega)
    obtain ⟨K5, e5⟩ := heldMem g 1 hsm (by omega) (by omega)
    obtain ⟨K, hK⟩ : ∃ K, K = K1 + K2 + K3 + K4 + K5 := ⟨_, rfl⟩
    exact laws_FnExactParseMemory.walk K s g ok g _ _ w (e1 K (by omega)) (e2 K (by omega)) (e3 K (by omega)) (e4 K (by omega)) (e5 K (by omega)) hb (by omega) HTB
end Go.Proofs.YtlcikalgphafaaaDoor.P
