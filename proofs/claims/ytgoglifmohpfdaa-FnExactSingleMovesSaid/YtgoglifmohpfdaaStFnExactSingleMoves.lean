import Derived.Test.YtgoglifmohpfdaaPx14
namespace Go.Proofs.Ytgoglifmohpfdaa.P
open Go.RowKit Go.Proofs.YtgoglifmohpfdaaW.PrintWords Go.Proofs.YtgoglifmohpfdaaW.PrintLast Go.Proofs.YtgoglifmohpfdaaW.PrintMore
/-- The one statement without program or memory that the row of FnExactSingleMoves needs. -/
def FnExactSingleMovesPure : Prop := ∀ (a0_0 : Int) (a0_1 : Int) (a0_2 : Int) (a1 : Int), (fun x => (Lit.int .i64 x).wf = true) a0_0 → (fun x => (Lit.int .i64 x).wf = true) a0_1 → (fun x => (Lit.int .i64 x).wf = true) a0_2 → (fun x => (Lit.int .i64 x).wf = true) a1 → ∃ k, laws_FnExactSingleMoves.f k a0_0 a0_1 a0_2 a1 = some true
end Go.Proofs.Ytgoglifmohpfdaa.P
