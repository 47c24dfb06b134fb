import Derived.Test.YtgoglifmohpfdaaPx1
namespace Go.Proofs.Ytgoglifmohpfdaa.P
open Go.RowKit Go.Proofs.YtgoglifmohpfdaaW.PrintWords Go.Proofs.YtgoglifmohpfdaaW.PrintLast Go.Proofs.YtgoglifmohpfdaaW.PrintMore
/-- The one statement without program or memory that the row of FnExactGrowsFast needs. -/
def FnExactGrowsFastPure : Prop := ∀ (a0_0 : Int) (a0_1 : Int) (a0_2 : Int), (fun x => (Lit.int .i64 x).wf = true) a0_0 → (fun x => (Lit.int .i64 x).wf = true) a0_1 → (fun x => (Lit.int .i64 x).wf = true) a0_2 → laws_FnExactGrowsFast.f a0_0 a0_1 a0_2 = some true
end Go.Proofs.Ytgoglifmohpfdaa.P
