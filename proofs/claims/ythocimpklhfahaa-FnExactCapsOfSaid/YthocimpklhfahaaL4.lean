/- Plain lemmas: what a rule makes of a capacity, in the reference's words. No program, no memory. -/
import Derived.Test.YthocimpklhfahaaRule
import Derived.Test.YthocimpklhfahaaBase
import Derived.Test.YthocimpklhfahaaPx1
namespace Go.Proofs.Ythocimpklhfahaa.P
open Go.RowKit Go.Proofs.YthocimpklhfahaaW.PrintWords Go.Proofs.YthocimpklhfahaaW.PrintLast Go.Proofs.YthocimpklhfahaaW.PrintMore
set_option linter.unusedVariables false
set_option linter.unusedSimpArgs false
theorem most_mx (x y : Int) : spec_l1Most.f x y = some (mx x y) := by
  unfold spec_l1Most.f mx
  by_cases h : x > y
  · rw [if_pos h, if_neg (by omega)]
  · rw [if_neg h]
    by_cases h2 : x < y
    · rw [if_pos h2]
    · rw [if_neg h2, show x = y by omega]
theorem size_eq (n : Int) : spec_l4Size.f n = some (inB n 0 1000000) := by
  unfold spec_l4Size.f; rw [l1In_eq]; rfl
theorem inB_iff (x a b : Int) : inB x a b = true ↔ a ≤ x ∧ x ≤ b := by unfold inB; simp only [decide_eq_true_eq]
theorem mx_le (x y z : Int) : mx x y ≤ z ↔ x ≤ z ∧ y ≤ z := by unfold mx; split <;> omega
theorem mx_ge (x y : Int) : x ≤ mx x y ∧ y ≤ mx x y := by unfold mx; split <;> omega
/-- What a rule makes of (cap, need). -/
theorem quot_bd {c a b : Int} (hc : 0 ≤ c) (hc2 : c ≤ 1000000) (ha : 1 ≤ a) (ha2 : a ≤ 8) (hb : 1 ≤ b) : 0 ≤ c * a ∧ c * a ≤ 8000000 ∧ 0 ≤ c * a / b ∧ c * a / b ≤ 8000000 := by
  have h1 : 0 ≤ c * a := Int.mul_nonneg hc (by omega)
  have h2 : c * a ≤ 8000000 := by
    have := Int.mul_le_mul hc2 ha2 (by omega) (by omega); omega
  have h3 : 0 ≤ c * a / b := Int.ediv_nonneg h1 (by omega)
  have h4 : c * a / b ≤ c * a := Int.ediv_le_self b h1
  exact ⟨h1, h2, h3, by omega⟩
theorem l4Next_eq (r0 r1 r2 l c n : Int) (hr : ruleOk r0 r1 r2 = true) (hl : 0 ≤ l ∧ l ≤ 1000000) (hc : 0 ≤ c ∧ c ≤ 1000000) (hn : 0 ≤ n ∧ n ≤ 1000000) :
    spec_l4Next.f r0 r1 r2 l c n = some (if c < l + n then mx (mx (c * r0 / r1 + r2) (l + n)) (c + 1) else c) := by
  rw [ruleOk_iff] at hr
  obtain ⟨q1, q2, q3, q4⟩ := quot_bd hc.1 hc.2 (a := r0) (b := r1) (by omega) (by omega) (by omega)
  unfold spec_l4Next.f
  rw [wrap_in (x := l + n) (by omega) (by omega)]
  by_cases h : c < l + n
  · rw [if_neg (by omega), if_neg (by omega), if_pos h, wrap_in (x := c * r0) (by omega) (by omega), Int.tdiv_eq_ediv_of_nonneg q1, wrap_in (x := c * r0 / r1) (by omega) (by omega), wrap_in (x := c * r0 / r1 + r2) (by omega) (by omega), wrap_in (x := c + 1) (by omega) (by omega)]
    simp only [most_mx, Option.bind_some]
  · rw [if_pos (by omega), if_neg h]
/-- The capacity behind an append of n. -/
def nxt (r0 r1 r2 l c n : Int) : Int := if c < l + n then mx (mx (c * r0 / r1 + r2) (l + n)) (c + 1) else c
theorem nxt_eq (r0 r1 r2 l c n : Int) (hr : ruleOk r0 r1 r2 = true) (hl : 0 ≤ l ∧ l ≤ 1000000) (hc : 0 ≤ c ∧ c ≤ 1000000) (hn : 0 ≤ n ∧ n ≤ 1000000) : spec_l4Next.f r0 r1 r2 l c n = some (nxt r0 r1 r2 l c n) := l4Next_eq r0 r1 r2 l c n hr hl hc hn
end Go.Proofs.Ythocimpklhfahaa.P
