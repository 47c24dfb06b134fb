import Derived.Test.YtoopmaoclcobeaaDoorPx11
namespace Go.Proofs.YtoopmaoclcobeaaDoor.P
open Go.RowKit Go.Proofs.YtoopmaoclcobeaaDoorW.PrintWords Go.Proofs.YtoopmaoclcobeaaDoorW.PrintLast Go.Proofs.YtoopmaoclcobeaaDoorW.PrintMore
/-- The one statement without program or memory that the row of FnExactParseInt needs. -/
def FnExactParseIntPure : Prop := ∀ (a0 : ByteArray), (fun s => s.size ≤ 9223372036854775807) a0 → ∃ k, laws_FnExactParseInt.f k a0 = some true
end Go.Proofs.YtoopmaoclcobeaaDoor.P
