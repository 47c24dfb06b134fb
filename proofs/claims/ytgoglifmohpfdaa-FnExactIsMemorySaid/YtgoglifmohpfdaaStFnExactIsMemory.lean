import Derived.Test.YtgoglifmohpfdaaPx4
namespace Go.Proofs.Ytgoglifmohpfdaa.P
open Go.RowKit Go.Proofs.YtgoglifmohpfdaaW.PrintWords Go.Proofs.YtgoglifmohpfdaaW.PrintLast Go.Proofs.YtgoglifmohpfdaaW.PrintMore
/-- The one statement without program or memory that the row of FnExactIsMemory needs. -/
def FnExactIsMemoryPure : Prop := ∀ (l0_0 : List (List Int)), (fun l => l.length ≤ 9223372036854775807 ∧ ∀ x ∈ l, (fun l => l.length ≤ 9223372036854775807 ∧ ∀ x ∈ l, (fun x => (Lit.int .u8 x).wf = true) x) x) l0_0 → ∃ k, laws_FnExactIsMemory.f k l0_0 = some true
end Go.Proofs.Ytgoglifmohpfdaa.P
