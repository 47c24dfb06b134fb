/- The row of FnExactMemoryText: the call returns true for every input, and each argument reads as before; no condition beyond the row's own. Printed by mkrow.py of this repo. -/
import Derived.Test.YtoopmaoclcobeaaRows
import Derived.Test.YtoopmaoclcobeaaPx10
import Derived.Test.YtoopmaoclcobeaaOpen
import Derived.Test.YtoopmaoclcobeaaPureFnExactMemoryText
import Derived.WalkKit
import Derived.ProofKit
import Derived.OpenShut
import Derived.ShutString
import Derived.ChangeOld
import Derived.Below
import Derived.SizedLaws
namespace Go.Proofs.Ytoopmaoclcobeaa.fnExactMemoryText
open Go.ChangeShapes Go.WideShapes Go.ChangeAt Go.RowKit Go.Proofs.Ytoopmaoclcobeaa.P Go.Proofs.YtoopmaoclcobeaaW.PrintWords Go.Proofs.YtoopmaoclcobeaaW.PrintLast Go.Proofs.YtoopmaoclcobeaaW.PrintMore
open Go.ChangeMaps (open_string shut_string)
set_option linter.unusedVariables false
set_option linter.unusedSimpArgs false
theorem own : ownKnob Try.prog.godebug = none := by kernel_rfl
theorem laidOut : laidOutB Try.prog = true := by kernel_rfl
set_option maxRecDepth 100000 in
theorem lifted (os : Os) (started : os.Started) (H : Type) (enc : TypeId × Value → H) :
    ReturnsInHanded {} Try.checked os 3 .any (Rows.fnExactMemoryTextSpec.pre6 enc Try.prog Try.f3 Rows.fnExactMemoryTextRow.domain false) (Rows.fnExactMemoryTextSpec.post enc Try.prog Try.f3 false true false false) := by
  refine returnsInHanded_of_change_sized (C := Try.checked) own started (by kernel_rfl) Try.func3
    (ChangeSpec.witness6 (enc := enc) (C := Try.checked) false ⟨#[], #[.agg #[.slice none 0 0]], []⟩ 8 (by kernel_rfl) (by kernel_rfl) (by kernel_rfl) (by kernel_rfl)) ?_
  intro W base args ds gs before hval0 hW hcnd hsz0 _
  have hval : ∀ (j : Nat) t v, Try.f3.params[j]? = some t → args[j]? = some v → Value.okWide Try.prog W .any base t v := hval0
  have hW' := hW
  obtain ⟨p, q, hA0, hV, rfl, hfz, hnd⟩ := hW
  have hA : DataW.TrodAll enc Try.prog W 0 (fun _ => true) true Try.f3.params.toList args.toList ds p := hA0
  rw [Try.params3] at hA hval
  obtain ⟨v0, vs0, d0, ds0, p0, q0, hargs, rfl, rfl, h0, r0⟩ := trodAll_cons hA
  obtain ⟨rfl, rfl, rfl⟩ := trodAll_nil r0
  obtain rfl : args = #[v0] := by cases args; simp_all
  obtain ⟨rfl, rfl⟩ := trodVars_none hV
  have k0_ := h0
  have lt0 : ∀ x ∈ p0, x.block < W.heap.size := by obtain ⟨m, hm⟩ := k0_; exact DataW.trod_lt m _ _ _ hm
  obtain ⟨v0_0, y0_0, nn0, rfl, h0_0⟩ := byval1 Try.underlying24 (by kernel_rfl) (by kernel_rfl) (hval 0 24 v0 rfl rfl) h0
  obtain ⟨l0_0, hk0_0, w0_0⟩ := opn_slice (d := (Kd.slice 5 (Kd.int .u8))) (Q := (fun l => l.length ≤ 9223372036854775807 ∧ ∀ x ∈ l, (fun x => (Lit.int .u8 x).wf = true) x)) Try.underlying22 (by kernel_rfl) (fun _ _ _ h => opn_slice (d := (Kd.int .u8)) (Q := (fun x => (Lit.int .u8 x).wf = true)) Try.underlying47 (by kernel_rfl) (fun _ _ _ h => opn_int Try.underlying5 h) h) h0_0
  obtain ⟨A0_0, c0_0, e0_0, hc0_0, hr0_0⟩ := hk0_0
  simp only [List.cons.injEq, and_true] at e0_0
  subst e0_0
  clear hA0 hval0 hsz0
  obtain ⟨k, hp⟩ := FnExactMemoryText_ok l0_0 w0_0
  refine (laws_FnExactMemoryText.calls k _ _ l0_0 true W hr0_0 hc0_0 hp).mono fun e W' ⟨he, bel0⟩ => ?_
  have bel : Below W.heap.size W W' := by first | exact bel0 | exact bel0.below
  subst he
  exact ⟨_, rfl, _, _, _, [], _, [], hW', trodAll_mk1 (shut_bool Try.underlying4 _), (trodAll_cons_mk (Below.trod laidOut (by kernel_rfl) (of_decide_eq_true (by kernel_rfl)) k0_ bel lt0) trodAll_mk0), rfl, bel.frame _, fun h => by cases h⟩
theorem over : Rows.fnExactMemoryTextRow.holds Try.pinned (OpenSpec.ofChange Rows.fnExactMemoryTextSpec) :=
  OpenClaim.holds_of_wide 3 Try.f3 rfl rfl rfl rfl rfl rfl rfl ⟨rfl, rfl, rfl, rfl, rfl⟩ rfl rfl rfl rfl rfl (by kernel_rfl) Try.func3 (by kernel_rfl)
    (of_decide_eq_true (by kernel_rfl)) (by unfold Func.isWrapper; first | (rw [if_pos (by decide +kernel)]; kernel_rfl) | (rw [if_neg (by decide +kernel)]; exact ⟨rfl, rfl⟩))
    (fun os started H enc _ => lifted os started H enc)
theorem proved : Rows.FnExactMemoryTextSaid := over
#print axioms proved
end Go.Proofs.Ytoopmaoclcobeaa.fnExactMemoryText
namespace Go.Proofs.Ytoopmaoclcobeaa
/-- The row, under a short name, for the claim. -/
theorem fnExactMemoryText_holds : Rows.FnExactMemoryTextSaid := fnExactMemoryText.proved
end Go.Proofs.Ytoopmaoclcobeaa
