import Derived.Test.YtlcikalgphafaaaDoorPx12
namespace Go.Proofs.YtlcikalgphafaaaDoor.P
open Go.RowKit Go.Proofs.YtlcikalgphafaaaDoorW.PrintWords Go.Proofs.YtlcikalgphafaaaDoorW.PrintLast Go.Proofs.YtlcikalgphafaaaDoorW.PrintMore
/-- The one statement without program or memory that the row of FnSplitJoin needs. -/
def FnSplitJoinPure : Prop := ∀ (l0 : List Int), (fun l => l.length ≤ 9223372036854775807 ∧ ∀ x ∈ l, (fun x => (Lit.int .u8 x).wf = true) x) l0 → ∃ k, laws_FnSplitJoin.f k l0 = some true
end Go.Proofs.YtlcikalgphafaaaDoor.P
