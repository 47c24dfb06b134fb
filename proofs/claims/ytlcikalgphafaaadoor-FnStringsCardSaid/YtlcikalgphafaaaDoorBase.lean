/- Plain lemmas of all seats: small numbers do not wrap; both range tests are one. No program, no memory. -/
import Derived.Test.YtlcikalgphafaaaDoorPx1
namespace Go.Proofs.YtlcikalgphafaaaDoor.P
open Go.RowKit Go.Proofs.YtlcikalgphafaaaDoorW.PrintWords Go.Proofs.YtlcikalgphafaaaDoorW.PrintLast Go.Proofs.YtlcikalgphafaaaDoorW.PrintMore
set_option linter.unusedVariables false
set_option linter.unusedSimpArgs false

theorem wrap_in {x : Int} (h0 : -9223372036854775808 ≤ x) (h1 : x ≤ 9223372036854775807) : wrap64 x = x := by unfold wrap64; omega
theorem wrap_succ (i : Nat) (h : i < 9223372036854775807) : wrap64 ((i : Int) + 1) = ((i + 1 : Nat) : Int) := by unfold wrap64; omega
theorem wf64 {x : Int} (h : (Lit.int .i64 x).wf = true) : -9223372036854775808 ≤ x ∧ x ≤ 9223372036854775807 := by
  simp only [Lit.wf, Bool.and_eq_true, decide_eq_true_eq] at h
  exact h
theorem Ev.end_ {α : Type} {g : Nat → Option α} {r : α} (h : ∀ k, g (k + 1) = some r) : Ev g r := Ev.step h (Ev.now r)
theorem drop_cons {α : Type} (m : List α) (d : α) (i : Nat) (h : i < m.length) : m.drop i = m.getD i d :: m.drop (i + 1) := by
  rw [List.drop_eq_getElem_cons h, List.getD_eq_getElem?_getD, List.getElem?_eq_getElem h]; rfl
theorem getD_mem {α : Type} (m : List α) (d : α) (i : Nat) (h : i < m.length) : m.getD i d ∈ m := by
  rw [List.getD_eq_getElem?_getD, List.getElem?_eq_getElem h]; exact List.getElem_mem h

def inB (a b c : Int) : Bool := decide (b ≤ a ∧ a ≤ c)
theorem within_eq (a b c : Int) : impl_within.f a b c = some (inB a b c) := by
  unfold impl_within.f inB
  by_cases h : a ≥ b
  · rw [if_pos h]; simp [show b ≤ a from h]
  · rw [if_neg h]; simp [show ¬ b ≤ a from h]
theorem l1In_eq (a b c : Int) : spec_l1In.f a b c = some (inB a b c) := by
  unfold spec_l1In.f inB
  by_cases h : a ≥ b
  · rw [if_pos h]; simp [show b ≤ a from h]
  · rw [if_neg h]; simp [show ¬ b ≤ a from h]

end Go.Proofs.YtlcikalgphafaaaDoor.P
