import Derived.Test.YtoopmaoclcobeaaPx5
namespace Go.Proofs.Ytoopmaoclcobeaa.P
open Go.RowKit Go.Proofs.YtoopmaoclcobeaaW.PrintWords Go.Proofs.YtoopmaoclcobeaaW.PrintLast Go.Proofs.YtoopmaoclcobeaaW.PrintMore
/-- The one statement without program or memory that the row of FnExactJoinStrings needs. -/
def FnExactJoinStringsPure : Prop := ∀ (l0 : List ByteArray) (a1 : ByteArray), (fun l => l.length ≤ 9223372036854775807 ∧ ∀ x ∈ l, (fun s => s.size ≤ 9223372036854775807) x) l0 → (fun s => s.size ≤ 9223372036854775807) a1 → ∃ k, laws_FnExactJoinStrings.f k l0 a1 = some true
end Go.Proofs.Ytoopmaoclcobeaa.P
