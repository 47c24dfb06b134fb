import Derived.Test.YtoopmaoclcobeaaDoorPx5
namespace Go.Proofs.YtoopmaoclcobeaaDoor.P
open Go.RowKit Go.Proofs.YtoopmaoclcobeaaDoorW.PrintWords Go.Proofs.YtoopmaoclcobeaaDoorW.PrintLast Go.Proofs.YtoopmaoclcobeaaDoorW.PrintMore
/-- The one statement without program or memory that the row of FnExactWindowText needs. -/
def FnExactWindowTextPure : Prop := ∀ (a0_0 : Int) (a0_1 : Int) (a0_2 : Int) (a0_3 : Int), (fun x => (Lit.int .i64 x).wf = true) a0_0 → (fun x => (Lit.int .i64 x).wf = true) a0_1 → (fun x => (Lit.int .i64 x).wf = true) a0_2 → (fun x => (Lit.int .i64 x).wf = true) a0_3 → ∃ k, laws_FnExactWindowText.f k a0_0 a0_1 a0_2 a0_3 = some true
end Go.Proofs.YtoopmaoclcobeaaDoor.P
