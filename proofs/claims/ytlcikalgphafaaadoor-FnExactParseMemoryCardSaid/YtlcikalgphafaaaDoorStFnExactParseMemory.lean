import Derived.Test.YtlcikalgphafaaaDoorWalkFnExactParseMemory
namespace Go.Proofs.YtlcikalgphafaaaDoor.P
open Go.RowKit Go.Proofs.YtlcikalgphafaaaDoorW.PrintWords Go.Proofs.YtlcikalgphafaaaDoorW.PrintLast Go.Proofs.YtlcikalgphafaaaDoorW.PrintMore
/-- What the row of FnExactParseMemory needs. -/
def FnExactParseMemoryTrue : Prop := ∀ (a0 : ByteArray) (w : World), (fun s => s.size ≤ 9223372036854775807) a0 → Aside0 (TabB w) → Calls Tryd.prog 6 #[.string a0] w fun e w' => e = .returned (.bool true) ∧ Below w.heap.size w w'
end Go.Proofs.YtlcikalgphafaaaDoor.P
