import Derived.Test.YtgoglifmohpfdaaPx5
namespace Go.Proofs.Ytgoglifmohpfdaa.P
open Go.RowKit Go.Proofs.YtgoglifmohpfdaaW.PrintWords Go.Proofs.YtgoglifmohpfdaaW.PrintLast Go.Proofs.YtgoglifmohpfdaaW.PrintMore
/-- The one statement without program or memory that the row of FnExactWholeWindow needs. -/
def FnExactWholeWindowPure : Prop := ∀ (l0_0 : List (List Int)) (a1 : Int), (fun l => l.length ≤ 9223372036854775807 ∧ ∀ x ∈ l, (fun l => l.length ≤ 9223372036854775807 ∧ ∀ x ∈ l, (fun x => (Lit.int .u8 x).wf = true) x) x) l0_0 → (fun x => (Lit.int .i64 x).wf = true) a1 → ∃ k, laws_FnExactWholeWindow.f k l0_0 a1 = some true
end Go.Proofs.Ytgoglifmohpfdaa.P
