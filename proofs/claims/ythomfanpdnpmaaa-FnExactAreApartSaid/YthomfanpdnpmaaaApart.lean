/- Plain lemmas: AreApart in both programs. -/
import Derived.Test.YthomfanpdnpmaaaOver
import Derived.Test.YthomfanpdnpmaaaPx17
namespace Go.Proofs.Ythomfanpdnpmaaa.P
open Go.RowKit Go.Proofs.YthomfanpdnpmaaaW.PrintWords Go.Proofs.YthomfanpdnpmaaaW.PrintLast Go.Proofs.YthomfanpdnpmaaaW.PrintMore
theorem areApart_spec (m : List (List Int)) (hm : Fit m) (a s l c b t u d : Int) (hs : -9223372036854775808 ≤ s ∧ s ≤ 9223372036854775807) (ht : -9223372036854775808 ≤ t ∧ t ≤ 9223372036854775807) : Ev (fun k => spec_AreApart.f k m a s l c b t u d) (if both m a s l c b t u d = true then (decide (ov a s l b t u = 0), true) else (false, false)) := by
  obtain ⟨K, hK⟩ := l2Both_ev m hm a s l c b t u d hs ht
  refine ⟨K, fun k hk => ?_⟩
  have e1 := hK k hk
  dsimp only at e1 ⊢
  simp only [spec_AreApart.f, e1, Option.bind_some]
  by_cases h : both m a s l c b t u d = true
  · obtain ⟨h1, h2, _, _⟩ := both_sm h
    rw [if_pos h, if_pos h, overlap_eq a s l c b t u d h1 h2]
    rfl
  · rw [if_neg h, if_neg h]
theorem areApart_impl (m : List (List Int)) (hm : Fit m) (a s l c b t u d : Int) : Ev (fun k => impl_AreApart.f k m a s l c b t u d) (if both m a s l c b t u d = true then (decide (ov a s l b t u = 0), true) else (false, false)) := by
  obtain ⟨K, hK⟩ := areOn2_ev m hm a s l c b t u d
  refine ⟨K, fun k hk => ?_⟩
  have e1 := hK k hk
  dsimp only at e1 ⊢
  simp only [impl_AreApart.f, e1, Option.bind_some]
  by_cases h : both m a s l c b t u d = true
  · obtain ⟨h1, h2, _, _⟩ := both_sm h
    rw [if_pos h, if_pos h, shared_eq a s l c b t u d h1 h2]
    simp only [Option.bind_some, Option.some.injEq, Prod.mk.injEq, and_true]
    have := ov_nonneg a s l b t u
    by_cases h0 : ov a s l b t u = 0
    · simp [h0]
    · rw [decide_eq_true (by omega), decide_eq_false h0]; rfl
  · rw [if_neg h, if_neg h]
end Go.Proofs.Ythomfanpdnpmaaa.P
