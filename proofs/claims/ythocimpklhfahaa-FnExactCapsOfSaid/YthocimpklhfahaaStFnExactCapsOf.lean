import Derived.Test.YthocimpklhfahaaPx11
namespace Go.Proofs.Ythocimpklhfahaa.P
open Go.RowKit Go.Proofs.YthocimpklhfahaaW.PrintWords Go.Proofs.YthocimpklhfahaaW.PrintLast Go.Proofs.YthocimpklhfahaaW.PrintMore
/-- The one statement without program or memory that the row of FnExactCapsOf needs. -/
def FnExactCapsOfPure : Prop := ∀ (a0_0 : Int) (a0_1 : Int) (a0_2 : Int) (l1 : List Int), (fun x => (Lit.int .i64 x).wf = true) a0_0 → (fun x => (Lit.int .i64 x).wf = true) a0_1 → (fun x => (Lit.int .i64 x).wf = true) a0_2 → (fun l => l.length ≤ 9223372036854775807 ∧ ∀ x ∈ l, (fun x => (Lit.int .i64 x).wf = true) x) l1 → ∃ k, laws_FnExactCapsOf.f k a0_0 a0_1 a0_2 l1 = some true
end Go.Proofs.Ythocimpklhfahaa.P
