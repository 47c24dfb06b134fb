/- The row of FnExactWindowBytes: the call returns true for every input, and each argument reads as before; no condition beyond the row's own. Printed by mkrow.py of this repo. -/
import Derived.Test.YtaoffejflichjaaRows
import Derived.Test.YtaoffejflichjaaWalkFnExactWindowBytes
import Derived.Test.YtaoffejflichjaaOpen
import Derived.Test.YtaoffejflichjaaPureFnExactWindowBytes
import Derived.WalkKit
import Derived.ProofKit
import Derived.OpenShut
import Derived.ShutString
import Derived.ChangeOld
import Derived.Below
import Derived.SizedLaws
namespace Go.Proofs.Ytaoffejflichjaa.fnExactWindowBytes
open Go.ChangeShapes Go.WideShapes Go.ChangeAt Go.RowKit Go.Proofs.Ytaoffejflichjaa.P Go.Proofs.YtaoffejflichjaaW.PrintWords Go.Proofs.YtaoffejflichjaaW.PrintLast Go.Proofs.YtaoffejflichjaaW.PrintMore
open Go.ChangeMaps (open_string shut_string)
set_option linter.unusedVariables false
set_option linter.unusedSimpArgs false
theorem own : ownKnob Try.prog.godebug = none := by kernel_rfl
theorem laidOut : laidOutB Try.prog = true := by kernel_rfl
set_option maxRecDepth 100000 in
theorem lifted (os : Os) (started : os.Started) (H : Type) (enc : TypeId × Value → H) :
    ReturnsInHanded {} Try.checked os 3 .any (Rows.fnExactWindowBytesSpec.pre6 enc Try.prog Try.f3 Rows.fnExactWindowBytesRow.domain false) (Rows.fnExactWindowBytesSpec.post enc Try.prog Try.f3 false true false false) := by
  refine returnsInHanded_of_change_sized (C := Try.checked) own started (by kernel_rfl) Try.func3
    (ChangeSpec.witness6 (enc := enc) (C := Try.checked) false ⟨#[], #[.agg #[.slice none 0 0], .agg #[.int .i64 0, .int .i64 0, .int .i64 0, .int .i64 0]], []⟩ 8 (by kernel_rfl) (by kernel_rfl) (by kernel_rfl) (by kernel_rfl)) ?_
  intro W base args ds gs before hval0 hW hcnd hsz0 _
  have hval : ∀ (j : Nat) t v, Try.f3.params[j]? = some t → args[j]? = some v → Value.okWide Try.prog W .any base t v := hval0
  have hW' := hW
  obtain ⟨p, q, hA0, hV, rfl, hfz, hnd⟩ := hW
  have hA : DataW.TrodAll enc Try.prog W 0 (fun _ => true) true Try.f3.params.toList args.toList ds p := hA0
  rw [Try.params3] at hA hval
  obtain ⟨v0, vs0, d0, ds0, p0, q0, hargs, rfl, rfl, h0, r0⟩ := trodAll_cons hA
  obtain ⟨v1, vs1, d1, ds1, p1, q1, rfl, rfl, rfl, h1, r1⟩ := trodAll_cons r0
  obtain ⟨rfl, rfl, rfl⟩ := trodAll_nil r1
  obtain rfl : args = #[v0, v1] := by cases args; simp_all
  obtain ⟨rfl, rfl⟩ := trodVars_none hV
  have k0_ := h0
  have lt0 : ∀ x ∈ p0, x.block < W.heap.size := by obtain ⟨m, hm⟩ := k0_; exact DataW.trod_lt m _ _ _ hm
  obtain ⟨v0_0, y0_0, nn0, rfl, h0_0⟩ := byval1 Try.underlying24 (by kernel_rfl) (by kernel_rfl) (hval 0 24 v0 rfl rfl) h0
  obtain ⟨l0_0, hk0_0, w0_0⟩ := opn_slice (d := (Kd.slice 5 (Kd.int .u8))) (Q := (fun l => l.length ≤ 9223372036854775807 ∧ ∀ x ∈ l, (fun x => (Lit.int .u8 x).wf = true) x)) Try.underlying22 (by kernel_rfl) (fun _ _ _ h => opn_slice (d := (Kd.int .u8)) (Q := (fun x => (Lit.int .u8 x).wf = true)) Try.underlying28 (by kernel_rfl) (fun _ _ _ h => opn_int Try.underlying5 h) h) h0_0
  obtain ⟨A0_0, c0_0, e0_0, hc0_0, hr0_0⟩ := hk0_0
  simp only [List.cons.injEq, and_true] at e0_0
  subst e0_0
  have k1_ := h1
  have lt1 : ∀ x ∈ p1, x.block < W.heap.size := by obtain ⟨m, hm⟩ := k1_; exact DataW.trod_lt m _ _ _ hm
  obtain ⟨v1_0, v1_1, v1_2, v1_3, y1_0, y1_1, y1_2, y1_3, nn1, rfl, h1_0, h1_1, h1_2, h1_3⟩ := byval4 Try.underlying26 (by kernel_rfl) (by kernel_rfl) (hval 1 26 v1 rfl rfl) h1
  obtain ⟨a1_0, e1_0, w1_0⟩ := opn_int Try.underlying3 h1_0
  replace e1_0 := List.head_eq_of_cons_eq e1_0
  subst e1_0
  obtain ⟨a1_1, e1_1, w1_1⟩ := opn_int Try.underlying3 h1_1
  replace e1_1 := List.head_eq_of_cons_eq e1_1
  subst e1_1
  obtain ⟨a1_2, e1_2, w1_2⟩ := opn_int Try.underlying3 h1_2
  replace e1_2 := List.head_eq_of_cons_eq e1_2
  subst e1_2
  obtain ⟨a1_3, e1_3, w1_3⟩ := opn_int Try.underlying3 h1_3
  replace e1_3 := List.head_eq_of_cons_eq e1_3
  subst e1_3
  clear hA0 hval0 hsz0
  refine (FnExactWindowBytes_ok _ _ l0_0 a1_0 a1_1 a1_2 a1_3 W hr0_0 hc0_0 w0_0 w1_0 w1_1 w1_2 w1_3).mono fun e W' ⟨he, bel0⟩ => ?_
  have bel : Below W.heap.size W W' := by first | exact bel0 | exact bel0.below
  subst he
  exact ⟨_, rfl, _, _, _, [], _, [], hW', trodAll_mk1 (shut_bool Try.underlying4 _), (trodAll_cons_mk (Below.trod laidOut (by kernel_rfl) (of_decide_eq_true (by kernel_rfl)) k0_ bel lt0) (trodAll_cons_mk (Below.trod laidOut (by kernel_rfl) (of_decide_eq_true (by kernel_rfl)) k1_ bel lt1) trodAll_mk0)), rfl, bel.frame _, fun h => by cases h⟩
theorem over : Rows.fnExactWindowBytesRow.holds Try.pinned (OpenSpec.ofChange Rows.fnExactWindowBytesSpec) :=
  OpenClaim.holds_of_wide 3 Try.f3 rfl rfl rfl rfl rfl rfl rfl ⟨rfl, rfl, rfl, rfl, rfl⟩ rfl rfl rfl rfl rfl (by kernel_rfl) Try.func3 (by kernel_rfl)
    (of_decide_eq_true (by kernel_rfl)) (by unfold Func.isWrapper; first | (rw [if_pos (by decide +kernel)]; kernel_rfl) | (rw [if_neg (by decide +kernel)]; exact ⟨rfl, rfl⟩))
    (fun os started H enc _ => lifted os started H enc)
theorem proved : Rows.FnExactWindowBytesSaid := over
#print axioms proved
end Go.Proofs.Ytaoffejflichjaa.fnExactWindowBytes
namespace Go.Proofs.Ytaoffejflichjaa
/-- The row, under a short name, for the claim. -/
theorem fnExactWindowBytes_holds : Rows.FnExactWindowBytesSaid := fnExactWindowBytes.proved
end Go.Proofs.Ytaoffejflichjaa
