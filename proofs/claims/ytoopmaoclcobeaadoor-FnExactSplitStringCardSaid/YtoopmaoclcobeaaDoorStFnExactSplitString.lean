import Derived.Test.YtoopmaoclcobeaaDoorPx12
namespace Go.Proofs.YtoopmaoclcobeaaDoor.P
open Go.RowKit Go.Proofs.YtoopmaoclcobeaaDoorW.PrintWords Go.Proofs.YtoopmaoclcobeaaDoorW.PrintLast Go.Proofs.YtoopmaoclcobeaaDoorW.PrintMore
/-- The one statement without program or memory that the row of FnExactSplitString needs. -/
def FnExactSplitStringPure : Prop := ∀ (a0 : ByteArray) (a1 : ByteArray), (fun s => s.size ≤ 9223372036854775807) a0 → (fun s => s.size ≤ 9223372036854775807) a1 → ∃ k, laws_FnExactSplitString.f k a0 a1 = some true
end Go.Proofs.YtoopmaoclcobeaaDoor.P
