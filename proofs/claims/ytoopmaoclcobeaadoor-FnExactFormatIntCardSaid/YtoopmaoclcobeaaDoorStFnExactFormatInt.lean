import Derived.Test.YtoopmaoclcobeaaDoorPx4
namespace Go.Proofs.YtoopmaoclcobeaaDoor.P
open Go.RowKit Go.Proofs.YtoopmaoclcobeaaDoorW.PrintWords Go.Proofs.YtoopmaoclcobeaaDoorW.PrintLast Go.Proofs.YtoopmaoclcobeaaDoorW.PrintMore
/-- The one statement without program or memory that the row of FnExactFormatInt needs. -/
def FnExactFormatIntPure : Prop := ∀ (a0 : Int), (fun x => (Lit.int .i64 x).wf = true) a0 → ∃ k, laws_FnExactFormatInt.f k a0 = some true
end Go.Proofs.YtoopmaoclcobeaaDoor.P
