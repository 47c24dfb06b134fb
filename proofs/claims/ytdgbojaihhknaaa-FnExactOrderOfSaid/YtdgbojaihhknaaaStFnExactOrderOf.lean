import Derived.Test.YtdgbojaihhknaaaPx14
namespace Go.Proofs.Ytdgbojaihhknaaa.P
open Go.RowKit Go.Proofs.YtdgbojaihhknaaaW.PrintWords Go.Proofs.YtdgbojaihhknaaaW.PrintLast Go.Proofs.YtdgbojaihhknaaaW.PrintMore
/-- The one statement without program or memory that the row of FnExactOrderOf needs. -/
def FnExactOrderOfPure : Prop := ∀ (l0_0 : List (List Int)) (a1_0 : Int) (a1_1 : Int) (a1_2 : Int) (a1_3 : Int) (a2_0 : Int) (a2_1 : Int) (a2_2 : Int) (a2_3 : Int), (fun l => l.length ≤ 9223372036854775807 ∧ ∀ x ∈ l, (fun l => l.length ≤ 9223372036854775807 ∧ ∀ x ∈ l, (fun x => (Lit.int .u8 x).wf = true) x) x) l0_0 → (fun x => (Lit.int .i64 x).wf = true) a1_0 → (fun x => (Lit.int .i64 x).wf = true) a1_1 → (fun x => (Lit.int .i64 x).wf = true) a1_2 → (fun x => (Lit.int .i64 x).wf = true) a1_3 → (fun x => (Lit.int .i64 x).wf = true) a2_0 → (fun x => (Lit.int .i64 x).wf = true) a2_1 → (fun x => (Lit.int .i64 x).wf = true) a2_2 → (fun x => (Lit.int .i64 x).wf = true) a2_3 → ∃ k, laws_FnExactOrderOf.f k l0_0 a1_0 a1_1 a1_2 a1_3 a2_0 a2_1 a2_2 a2_3 = some true
end Go.Proofs.Ytdgbojaihhknaaa.P
