/- The law FnExactNextCap answers true for every rule and sizes. No condition beyond the row's own. -/
import Derived.Test.YtgoglifmohpfdaaStFnExactNextCap
import Derived.Test.YtgoglifmohpfdaaRule
import Derived.Test.YtgoglifmohpfdaaGrow
import Derived.Test.YtgoglifmohpfdaaMem
namespace Go.Proofs.Ytgoglifmohpfdaa.P
open Go.RowKit Go.Proofs.YtgoglifmohpfdaaW.PrintWords Go.Proofs.YtgoglifmohpfdaaW.PrintLast Go.Proofs.YtgoglifmohpfdaaW.PrintMore
set_option linter.unusedVariables false
set_option linter.unusedSimpArgs false
theorem most_mx (x y : Int) : spec_l1Most.f x y = some (mx x y) := by
  unfold spec_l1Most.f mx
  by_cases h : x > y
  · rw [if_pos h, if_neg (by omega)]
  · rw [if_neg h]
    by_cases h2 : x < y
    · rw [if_pos h2]
    · rw [if_neg h2, show x = y by omega]
theorem size_eq (n : Int) : spec_l4Size.f n = some (inB n 0 1000000) := by
  unfold spec_l4Size.f; rw [l1In_eq]; rfl
theorem inB_iff (x a b : Int) : inB x a b = true ↔ a ≤ x ∧ x ≤ b := by unfold inB; simp only [decide_eq_true_eq]
theorem mx_le (x y z : Int) : mx x y ≤ z ↔ x ≤ z ∧ y ≤ z := by unfold mx; split <;> omega
theorem mx_ge (x y : Int) : x ≤ mx x y ∧ y ≤ mx x y := by unfold mx; split <;> omega
/-- What a rule makes of (cap, need). -/
theorem quot_bd {c a b : Int} (hc : 0 ≤ c) (hc2 : c ≤ 1000000) (ha : 1 ≤ a) (ha2 : a ≤ 8) (hb : 1 ≤ b) : 0 ≤ c * a ∧ c * a ≤ 8000000 ∧ 0 ≤ c * a / b ∧ c * a / b ≤ 8000000 := by
  have h1 : 0 ≤ c * a := Int.mul_nonneg hc (by omega)
  have h2 : c * a ≤ 8000000 := by
    have := Int.mul_le_mul hc2 ha2 (by omega) (by omega); omega
  have h3 : 0 ≤ c * a / b := Int.ediv_nonneg h1 (by omega)
  have h4 : c * a / b ≤ c * a := Int.ediv_le_self b h1
  exact ⟨h1, h2, h3, by omega⟩
theorem l4Next_eq (r0 r1 r2 l c n : Int) (hr : ruleOk r0 r1 r2 = true) (hl : 0 ≤ l ∧ l ≤ 1000000) (hc : 0 ≤ c ∧ c ≤ 1000000) (hn : 0 ≤ n ∧ n ≤ 1000000) :
    spec_l4Next.f r0 r1 r2 l c n = some (if c < l + n then mx (mx (c * r0 / r1 + r2) (l + n)) (c + 1) else c) := by
  rw [ruleOk_iff] at hr
  obtain ⟨q1, q2, q3, q4⟩ := quot_bd hc.1 hc.2 (a := r0) (b := r1) (by omega) (by omega) (by omega)
  unfold spec_l4Next.f
  rw [wrap_in (x := l + n) (by omega) (by omega)]
  by_cases h : c < l + n
  · rw [if_neg (by omega), if_neg (by omega), if_pos h, wrap_in (x := c * r0) (by omega) (by omega), Int.tdiv_eq_ediv_of_nonneg q1, wrap_in (x := c * r0 / r1) (by omega) (by omega), wrap_in (x := c * r0 / r1 + r2) (by omega) (by omega), wrap_in (x := c + 1) (by omega) (by omega)]
    simp only [most_mx, Option.bind_some]
  · rw [if_pos (by omega), if_neg h]
/-- The answer of both programs. -/
def nextCap (r0 r1 r2 l s n : Int) : Int × Bool :=
  if (ruleOk r0 r1 r2 && (inB l 0 1000000 && (inB s 0 1000000 && (inB n 0 1000000 && (inB (l + s) 0 1000000 && inB (l + n) 0 1000000))))) = true then
    (if (if l + s < l + n then mx (mx ((l + s) * r0 / r1 + r2) (l + n)) (l + s + 1) else l + s) ≤ 1000000 then ((if l + s < l + n then mx (mx ((l + s) * r0 / r1 + r2) (l + n)) (l + s + 1) else l + s), true) else (0, false))
  else (0, false)
theorem specj (l s n : Int) (b : Bool) (r0 r1 r2 : Int) : spec_NextCap.j0 1 l s n b r0 r1 r2 = if b = true then some (0, false) else (spec_l4Next.f r0 r1 r2 l (wrap64 (l + s)) n).bind fun t => (spec_l4Size.f t).bind fun t2 => if t2 = true then some (t, true) else some (0, false) := rfl
theorem implj (l s n : Int) (b : Bool) (r0 r1 r2 : Int) : impl_NextCap.j0 1 l s n b r0 r1 r2 = if b = true then some (0, false) else (impl_store_grow.f l (wrap64 (l + s)) 0 0 r0 r1 r2 n).bind fun t => if t.1 = true then some (t.2.2.1, true) else some (0, false) := rfl
theorem spec_next (r0 r1 r2 l s n : Int) : spec_NextCap.f 1 r0 r1 r2 l s n = some (nextCap r0 r1 r2 l s n) := by
  have hj : ∀ b, b = true → spec_NextCap.j0 1 l s n b r0 r1 r2 = some (0, false) := by intro b hb; rw [specj, if_pos hb]
  simp only [spec_NextCap.f, l4Rule_eq, size_eq, Option.bind_some]
  unfold nextCap
  by_cases h1 : ruleOk r0 r1 r2 = true
  · by_cases h2 : inB l 0 1000000 = true
    · by_cases h3 : inB s 0 1000000 = true
      · by_cases h4 : inB n 0 1000000 = true
        · have b2 := (inB_iff _ _ _).mp h2
          have b3 := (inB_iff _ _ _).mp h3
          have b4 := (inB_iff _ _ _).mp h4
          rw [wrap_in (x := l + s) (by omega) (by omega), wrap_in (x := l + n) (by omega) (by omega)]
          by_cases h5 : inB (l + s) 0 1000000 = true
          · by_cases h6 : inB (l + n) 0 1000000 = true
            · have b5 := (inB_iff _ _ _).mp h5
              rw [if_pos h1, if_pos h2, if_pos h3, if_pos h4, if_pos h5, if_pos (by simp only [h1, h2, h3, h4, h5, h6, Bool.and_self])]
              rw [specj]
              rw [if_neg (by rw [h6]; decide), wrap_in (x := l + s) (by omega) (by omega), l4Next_eq r0 r1 r2 l (l + s) n h1 b2 b5 b4, Option.bind_some, size_eq, Option.bind_some]
              generalize hX : (if l + s < l + n then mx (mx ((l + s) * r0 / r1 + r2) (l + n)) (l + s + 1) else l + s) = X
              have hX0 : 0 ≤ X := by
                rw [← hX]; split
                · have := (mx_ge (mx ((l + s) * r0 / r1 + r2) (l + n)) (l + s + 1)).2; omega
                · omega
              by_cases h7 : X ≤ 1000000
              · rw [if_pos h7, if_pos ((inB_iff _ _ _).mpr ⟨hX0, h7⟩)]
              · rw [if_neg h7, if_neg (fun e => h7 ((inB_iff _ _ _).mp e).2)]
            · rw [if_pos h1, if_pos h2, if_pos h3, if_pos h4, if_pos h5, hj _ (by simp only [h6, Bool.not_false, Bool.eq_false_iff.mpr h6]), if_neg (by simp only [Bool.eq_false_iff.mpr h6, Bool.and_false]; decide)]
          · rw [if_pos h1, if_pos h2, if_pos h3, if_pos h4, if_neg h5, hj _ rfl, if_neg (by simp only [Bool.eq_false_iff.mpr h5, Bool.false_and, Bool.and_false]; decide)]
        · rw [if_pos h1, if_pos h2, if_pos h3, if_neg h4, hj _ rfl, if_neg (by simp only [Bool.eq_false_iff.mpr h4, Bool.false_and, Bool.and_false]; decide)]
      · rw [if_pos h1, if_pos h2, if_neg h3, hj _ rfl, if_neg (by simp only [Bool.eq_false_iff.mpr h3, Bool.false_and, Bool.and_false]; decide)]
    · rw [if_pos h1, if_neg h2, hj _ rfl, if_neg (by simp only [Bool.eq_false_iff.mpr h2, Bool.false_and, Bool.and_false]; decide)]
  · rw [if_neg h1, hj _ rfl, if_neg (by simp only [Bool.eq_false_iff.mpr h1, Bool.false_and]; decide)]
theorem impl_next (r0 r1 r2 l s n : Int) (hn0 : -9223372036854775808 ≤ n ∧ n ≤ 9223372036854775807) : impl_NextCap.f 1 r0 r1 r2 l s n = some (nextCap r0 r1 r2 l s n) := by
  have hj : ∀ b, b = true → impl_NextCap.j0 1 l s n b r0 r1 r2 = some (0, false) := by intro b hb; rw [implj, if_pos hb]
  simp only [impl_NextCap.f, isRule_eq, isGrown_eq, within_eq, Option.bind_some]
  unfold nextCap
  by_cases h1 : ruleOk r0 r1 r2 = true
  · by_cases h2 : inB l 0 1000000 = true
    · have b2 := (inB_iff _ _ _).mp h2
      rw [wrap_in (x := 1000000 - l) (by omega) (by omega)]
      by_cases h3 : inB s 0 (1000000 - l) = true
      · have b3 := (inB_iff _ _ _).mp h3
        have e3 : inB s 0 1000000 = true := (inB_iff _ _ _).mpr (by omega)
        have e5 : inB (l + s) 0 1000000 = true := (inB_iff _ _ _).mpr (by omega)
        rw [if_pos h1, if_pos h2, h3]
        rw [implj]
        rw [if_neg (by decide), wrap_in (x := l + s) (by omega) (by omega)]
        have hr := ruleOk_iff.mp h1
        unfold impl_store_grow.f
        by_cases h4 : inB n 0 1000000 = true
        · have b4 := (inB_iff _ _ _).mp h4
          rw [if_pos b4, if_pos (by omega)]
          by_cases h8 : l + s < l + n
          · rw [if_pos h8]
            simp only [Option.bind_some, decide_eq_true_eq]
            by_cases h6 : inB (l + n) 0 1000000 = true
            · have hc : (ruleOk r0 r1 r2 && (inB l 0 1000000 && (inB s 0 1000000 && (inB n 0 1000000 && (inB (l + s) 0 1000000 && inB (l + n) 0 1000000))))) = true := by simp only [h1, h2, e3, h4, e5, h6, Bool.and_self]
              rw [if_pos hc, if_pos h8]
              generalize mx (mx ((l + s) * r0 / r1 + r2) (l + n)) (l + s + 1) = X
              by_cases h9 : X ≤ 1000000
              · rw [if_pos h9, if_pos h9]
              · rw [if_neg h9, if_neg h9]
            · have hc : ¬(ruleOk r0 r1 r2 && (inB l 0 1000000 && (inB s 0 1000000 && (inB n 0 1000000 && (inB (l + s) 0 1000000 && inB (l + n) 0 1000000))))) = true := by simp only [Bool.eq_false_iff.mpr h6, Bool.and_false]; decide
              have h9 : ¬ mx (mx ((l + s) * r0 / r1 + r2) (l + n)) (l + s + 1) ≤ 1000000 := fun e => h6 ((inB_iff _ _ _).mpr ⟨by omega, by rw [mx_le, mx_le] at e; omega⟩)
              rw [if_neg hc, if_neg h9]
          · rw [if_neg h8]
            simp only [Option.bind_some, if_true]
            have h6 : inB (l + n) 0 1000000 = true := (inB_iff _ _ _).mpr (by omega)
            have hc : (ruleOk r0 r1 r2 && (inB l 0 1000000 && (inB s 0 1000000 && (inB n 0 1000000 && (inB (l + s) 0 1000000 && inB (l + n) 0 1000000))))) = true := by simp only [h1, h2, e3, h4, e5, h6, Bool.and_self]
            rw [if_pos hc, if_neg h8, if_pos (show l + s ≤ 1000000 by omega)]
        · rw [if_neg (fun e => h4 ((inB_iff _ _ _).mpr e)), if_neg (by simp only [Bool.eq_false_iff.mpr h4, Bool.false_and, Bool.and_false]; decide)]
          simp only [Option.bind_some, Bool.false_eq_true, if_false]
      · rw [if_pos h1, if_pos h2, hj _ (by simp only [Bool.eq_false_iff.mpr h3, Bool.not_false]), if_neg]
        intro e
        simp only [Bool.and_eq_true, inB_iff] at e
        exact h3 ((inB_iff _ _ _).mpr (by omega))
    · rw [if_pos h1, if_neg h2, hj _ rfl, if_neg (by simp only [Bool.eq_false_iff.mpr h2, Bool.false_and, Bool.and_false]; decide)]
  · rw [if_neg h1, hj _ rfl, if_neg (by simp only [Bool.eq_false_iff.mpr h1, Bool.false_and]; decide)]
theorem FnExactNextCap_ok : FnExactNextCapPure := by
  intro r0 r1 r2 l s n _ _ _ _ _ hn
  refine ⟨1, ?_⟩
  simp only [laws_FnExactNextCap.f, laws_toGrowRule.f, Option.bind_some, spec_next, impl_next r0 r1 r2 l s n (wf64 hn), if_true, bne_self_eq_false, Bool.false_eq_true, if_false]
end Go.Proofs.Ytgoglifmohpfdaa.P
