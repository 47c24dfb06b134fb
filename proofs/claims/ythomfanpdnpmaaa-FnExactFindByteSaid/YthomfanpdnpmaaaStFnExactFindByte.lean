import Derived.Test.YthomfanpdnpmaaaPx10
namespace Go.Proofs.Ythomfanpdnpmaaa.P
open Go.RowKit Go.Proofs.YthomfanpdnpmaaaW.PrintWords Go.Proofs.YthomfanpdnpmaaaW.PrintLast Go.Proofs.YthomfanpdnpmaaaW.PrintMore
/-- The one statement without program or memory that the row of FnExactFindByte needs. -/
def FnExactFindBytePure : Prop := ∀ (l0_0 : List (List Int)) (a1_0 : Int) (a1_1 : Int) (a1_2 : Int) (a1_3 : Int) (a2 : Int), (fun l => l.length ≤ 9223372036854775807 ∧ ∀ x ∈ l, (fun l => l.length ≤ 9223372036854775807 ∧ ∀ x ∈ l, (fun x => (Lit.int .u8 x).wf = true) x) x) l0_0 → (fun x => (Lit.int .i64 x).wf = true) a1_0 → (fun x => (Lit.int .i64 x).wf = true) a1_1 → (fun x => (Lit.int .i64 x).wf = true) a1_2 → (fun x => (Lit.int .i64 x).wf = true) a1_3 → (fun x => (Lit.int .u8 x).wf = true) a2 → ∃ k, laws_FnExactFindByte.f k l0_0 a1_0 a1_1 a1_2 a1_3 a2 = some true
end Go.Proofs.Ythomfanpdnpmaaa.P
