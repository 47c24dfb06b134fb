import Derived.Test.YtaoffejflichjaaWalkFnExactWindowBytes
namespace Go.Proofs.Ytaoffejflichjaa.P
open Go.RowKit Go.Proofs.YtaoffejflichjaaW.PrintWords Go.Proofs.YtaoffejflichjaaW.PrintLast Go.Proofs.YtaoffejflichjaaW.PrintMore
/-- What the row of FnExactWindowBytes needs. -/
def FnExactWindowBytesTrue : Prop := ∀ (A0_0 : Option Addr) (c0_0 : Nat) (l0_0 : List (List Int)) (a1_0 : Int) (a1_1 : Int) (a1_2 : Int) (a1_3 : Int) (w : World), Kd.C (Kd.slice 5 (Kd.int .u8)) w A0_0 l0_0.length l0_0 → l0_0.length ≤ c0_0 → (fun l => l.length ≤ 9223372036854775807 ∧ ∀ x ∈ l, (fun l => l.length ≤ 9223372036854775807 ∧ ∀ x ∈ l, (fun x => (Lit.int .u8 x).wf = true) x) x) l0_0 → (fun x => (Lit.int .i64 x).wf = true) a1_0 → (fun x => (Lit.int .i64 x).wf = true) a1_1 → (fun x => (Lit.int .i64 x).wf = true) a1_2 → (fun x => (Lit.int .i64 x).wf = true) a1_3 → Calls Try.prog 3 #[.agg #[.slice A0_0 l0_0.length c0_0], .agg #[.int .i64 a1_0, .int .i64 a1_1, .int .i64 a1_2, .int .i64 a1_3]] w fun e w' => e = .returned (.bool true) ∧ Below w.heap.size w w'
end Go.Proofs.Ytaoffejflichjaa.P
