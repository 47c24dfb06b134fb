import Derived.Test.YtoopmaoclcobeaaPx10
namespace Go.Proofs.Ytoopmaoclcobeaa.P
open Go.RowKit Go.Proofs.YtoopmaoclcobeaaW.PrintWords Go.Proofs.YtoopmaoclcobeaaW.PrintLast Go.Proofs.YtoopmaoclcobeaaW.PrintMore
/-- The one statement without program or memory that the row of FnExactMemoryText needs. -/
def FnExactMemoryTextPure : Prop := ∀ (l0_0 : List (List Int)), (fun l => l.length ≤ 9223372036854775807 ∧ ∀ x ∈ l, (fun l => l.length ≤ 9223372036854775807 ∧ ∀ x ∈ l, (fun x => (Lit.int .u8 x).wf = true) x) x) l0_0 → ∃ k, laws_FnExactMemoryText.f k l0_0 = some true
end Go.Proofs.Ytoopmaoclcobeaa.P
