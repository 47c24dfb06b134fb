/- Plain lemmas: both tests of a rule are one. No program, no memory. -/
import Derived.Test.YthocimpklhfahaaPx1
import Derived.Test.YthocimpklhfahaaBase
namespace Go.Proofs.Ythocimpklhfahaa.P
open Go.RowKit Go.Proofs.YthocimpklhfahaaW.PrintWords Go.Proofs.YthocimpklhfahaaW.PrintLast Go.Proofs.YthocimpklhfahaaW.PrintMore
def ruleOk (a b c : Int) : Bool := decide ((1 ≤ b ∧ b ≤ a ∧ a ≤ 8) ∧ 0 ≤ c ∧ c ≤ 64)
theorem l4Rule_eq (a b c : Int) : spec_l4Rule.f a b c = some (ruleOk a b c) := by
  have e : ruleOk a b c = (inB b 1 8 && (inB a b 8 && inB c 0 64)) := by
    unfold ruleOk inB; rw [Bool.eq_iff_iff]; simp only [Bool.and_eq_true, decide_eq_true_eq]; omega
  rw [e]
  simp only [spec_l4Rule.f, l1In_eq, Option.bind_some]
  cases inB b 1 8 <;> cases inB a b 8 <;> simp
theorem isRule_eq (a b c : Int) : impl_IsGrowRule.f a b c = some (ruleOk a b c) := by
  have e : ruleOk a b c = (inB a 1 8 && (inB b 1 a && inB c 0 64)) := by
    unfold ruleOk inB; rw [Bool.eq_iff_iff]; simp only [Bool.and_eq_true, decide_eq_true_eq]; omega
  rw [e]
  simp only [impl_IsGrowRule.f, within_eq, Option.bind_some]
  cases inB a 1 8 <;> cases inB b 1 a <;> simp
theorem ruleOk_iff {a b c : Int} : ruleOk a b c = true ↔ (1 ≤ b ∧ b ≤ a ∧ a ≤ 8) ∧ 0 ≤ c ∧ c ≤ 64 := by unfold ruleOk; simp only [decide_eq_true_eq]
end Go.Proofs.Ythocimpklhfahaa.P
