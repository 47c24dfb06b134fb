/- Plain lemmas: how many places two windows share. No program, no memory. -/
import Derived.Test.YtdgbojaihhknaaaWin
import Derived.Test.YtdgbojaihhknaaaAreOn
import Derived.Test.YtdgbojaihhknaaaMem
import Derived.Test.YtdgbojaihhknaaaSm
import Derived.Test.YtdgbojaihhknaaaPx5
import Derived.Test.YtdgbojaihhknaaaPx6
namespace Go.Proofs.Ytdgbojaihhknaaa.P
open Go.RowKit Go.Proofs.YtdgbojaihhknaaaW.PrintWords Go.Proofs.YtdgbojaihhknaaaW.PrintLast Go.Proofs.YtdgbojaihhknaaaW.PrintMore
set_option linter.unusedVariables false
set_option linter.unusedSimpArgs false
/-- How many places two windows see both. -/
def ov (a s l b t u : Int) : Int := if a = b then (if mx s t < mn (s + l) (t + u) then mn (s + l) (t + u) - mx s t else 0) else 0
theorem ov_nonneg (a s l b t u : Int) : 0 ≤ ov a s l b t u := by unfold ov mx mn; repeat' split
                                                                 all_goals omega
theorem least_eq (x y : Int) : spec_l1Least.f x y = some (mn x y) := by
  unfold spec_l1Least.f mn
  by_cases h : x < y
  · rw [if_pos h, if_neg (by omega)]
  · rw [if_neg h]
    by_cases h2 : y < x
    · rw [if_pos h2]
    · rw [if_neg h2, show x = y by omega]
theorem most_eq (x y : Int) : spec_l1Most.f x y = some (mx x y) := by
  unfold spec_l1Most.f mx
  by_cases h : x > y
  · rw [if_pos h, if_neg (by omega)]
  · rw [if_neg h]
    by_cases h2 : x < y
    · rw [if_pos h2]
    · rw [if_neg h2, show x = y by omega]
theorem mx_bd (x y : Int) : (mx x y = x ∨ mx x y = y) ∧ x ≤ mx x y ∧ y ≤ mx x y := by unfold mx; split <;> omega
theorem mn_bd (x y : Int) : (mn x y = x ∨ mn x y = y) ∧ mn x y ≤ x ∧ mn x y ≤ y := by unfold mn; split <;> omega
theorem overlap_eq (a s l c b t u d : Int) (h1 : Sm s l) (h2 : Sm t u) : spec_l2Overlap.f a s l c b t u d = some (ov a s l b t u) := by
  unfold Sm at h1 h2
  unfold spec_l2Overlap.f ov
  have hx := mx_bd s t
  have hn := mn_bd (s + l) (t + u)
  by_cases h : a = b
  · rw [if_pos h, if_pos h, wrap_in (x := s + l) (by omega) (by omega), wrap_in (x := t + u) (by omega) (by omega)]
    simp only [least_eq, most_eq, Option.bind_some]
    rw [wrap_in (x := mn (s + l) (t + u) - mx s t) (by omega) (by omega)]
    by_cases h3 : mx s t < mn (s + l) (t + u)
    · rw [if_pos h3]; unfold mx; rw [if_pos (by unfold mx at h3; omega)]
    · rw [if_neg h3]; unfold mx; rw [if_neg (by unfold mx at h3; omega)]
  · rw [if_neg h, if_neg h]
theorem common_eq (a s l c b t u d : Int) (h1 : Sm s l) (h2 : Sm t u) : impl_common.f a s l c b t u d = some (ov a s l b t u, if 0 < ov a s l b t u then mx s t else -1) := by
  unfold Sm at h1 h2
  have hx := mx_bd s t
  have hn := mn_bd (s + l) (t + u)
  unfold impl_common.f ov
  by_cases h : a = b
  · rw [if_pos h, if_pos h, wrap_in (x := s + l) (by omega) (by omega), wrap_in (x := t + u) (by omega) (by omega)]
    by_cases h3 : mx s t < mn (s + l) (t + u)
    · rw [if_neg (by omega), if_pos h3, if_pos (by omega), wrap_in (x := mn (s + l) (t + u) - mx s t) (by omega) (by omega)]
    · rw [if_pos (by omega), if_neg h3, if_neg (by omega)]
  · rw [if_neg h, if_neg h, if_neg (by omega)]
theorem shared_eq (a s l c b t u d : Int) (h1 : Sm s l) (h2 : Sm t u) : impl_areShared.f a s l c b t u d = some (decide (0 < ov a s l b t u)) := by
  unfold impl_areShared.f
  rw [common_eq a s l c b t u d h1 h2]
  rfl
/-- Both windows lie on the memory. -/
def both (m : List (List Int)) (a s l c b t u d : Int) : Bool := memOk m && (winOn m a s l c && winOn m b t u d)
theorem l2Both_ev (m : List (List Int)) (hm : Fit m) (a s l c b t u d : Int) (hs : -9223372036854775808 ≤ s ∧ s ≤ 9223372036854775807) (ht : -9223372036854775808 ≤ t ∧ t ≤ 9223372036854775807) : Ev (fun k => spec_l2Both.f k m a s l c b t u d) (both m a s l c b t u d) := by
  obtain ⟨K1, h1⟩ := l2Win m hm a s l c hs
  obtain ⟨K2, h2⟩ := l2Win m hm b t u d ht
  refine ⟨K1 + K2, fun k hk => ?_⟩
  have e1 := h1 k (by omega)
  have e2 := h2 k (by omega)
  dsimp only at e1 e2 ⊢
  simp only [spec_l2Both.f, e1, e2, Option.bind_some]
  unfold both
  cases memOk m <;> cases winOn m a s l c <;> cases winOn m b t u d <;> rfl
theorem areOn2_ev (m : List (List Int)) (hm : Fit m) (a s l c b t u d : Int) : Ev (fun k => impl_areOn.f k m [⟨a, s, l, c⟩, ⟨b, t, u, d⟩]) (both m a s l c b t u d) := by
  have h := areOn_ev m hm [⟨a, s, l, c⟩, ⟨b, t, u, d⟩]
  simpa only [List.all_cons, List.all_nil, Bool.and_true, both] using h
theorem both_sm {m : List (List Int)} {a s l c b t u d : Int} (h : both m a s l c b t u d = true) : Sm s l ∧ Sm t u ∧ Sm s c ∧ Sm t d := by
  unfold both at h
  simp only [Bool.and_eq_true] at h
  obtain ⟨hok, h1, h2⟩ := h
  exact ⟨(win_sm hok h1).1, (win_sm hok h2).1, (win_sm hok h1).2.1, (win_sm hok h2).2.1⟩
end Go.Proofs.Ytdgbojaihhknaaa.P
