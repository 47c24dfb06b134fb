import Derived.Test.YtgoglifmohpfdaaPx9
namespace Go.Proofs.Ytgoglifmohpfdaa.P
open Go.RowKit Go.Proofs.YtgoglifmohpfdaaW.PrintWords Go.Proofs.YtgoglifmohpfdaaW.PrintLast Go.Proofs.YtgoglifmohpfdaaW.PrintMore
/-- The one statement without program or memory that the row of FnExactIsWindow needs. -/
def FnExactIsWindowPure : Prop := ∀ (l0_0 : List (List Int)) (a1_0 : Int) (a1_1 : Int) (a1_2 : Int) (a1_3 : Int), (fun l => l.length ≤ 9223372036854775807 ∧ ∀ x ∈ l, (fun l => l.length ≤ 9223372036854775807 ∧ ∀ x ∈ l, (fun x => (Lit.int .u8 x).wf = true) x) x) l0_0 → (fun x => (Lit.int .i64 x).wf = true) a1_0 → (fun x => (Lit.int .i64 x).wf = true) a1_1 → (fun x => (Lit.int .i64 x).wf = true) a1_2 → (fun x => (Lit.int .i64 x).wf = true) a1_3 → ∃ k, laws_FnExactIsWindow.f k l0_0 a1_0 a1_1 a1_2 a1_3 = some true
end Go.Proofs.Ytgoglifmohpfdaa.P
