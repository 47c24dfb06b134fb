import Derived.Test.YtdgbojaihhknaaaPx21
namespace Go.Proofs.Ytdgbojaihhknaaa.P
open Go.RowKit Go.Proofs.YtdgbojaihhknaaaW.PrintWords Go.Proofs.YtdgbojaihhknaaaW.PrintLast Go.Proofs.YtdgbojaihhknaaaW.PrintMore
/-- The one statement without program or memory that the row of FnExactAreWatched needs. -/
def FnExactAreWatchedPure : Prop := ∀ (l0_0 : List (List Int)) (l1 : List S26), (fun l => l.length ≤ 9223372036854775807 ∧ ∀ x ∈ l, (fun l => l.length ≤ 9223372036854775807 ∧ ∀ x ∈ l, (fun x => (Lit.int .u8 x).wf = true) x) x) l0_0 → (fun l => l.length ≤ 9223372036854775807 ∧ ∀ x ∈ l, (fun x => (fun x => (Lit.int .i64 x).wf = true) x.f0 ∧ (fun x => (Lit.int .i64 x).wf = true) x.f1 ∧ (fun x => (Lit.int .i64 x).wf = true) x.f2 ∧ (fun x => (Lit.int .i64 x).wf = true) x.f3) x) l1 → ∃ k, laws_FnExactAreWatched.f k l0_0 l1 = some true
end Go.Proofs.Ytdgbojaihhknaaa.P
