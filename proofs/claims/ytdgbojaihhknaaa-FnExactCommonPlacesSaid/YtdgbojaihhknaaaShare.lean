/- Plain lemmas: DoShare, CommonPlaces, AreNear in both programs. No program, no memory. -/
import Derived.Test.YtdgbojaihhknaaaOver
import Derived.Test.YtdgbojaihhknaaaPx5
import Derived.Test.YtdgbojaihhknaaaPx6
import Derived.Test.YtdgbojaihhknaaaPx8
import Derived.Test.YtdgbojaihhknaaaPx10
namespace Go.Proofs.Ytdgbojaihhknaaa.P
open Go.RowKit Go.Proofs.YtdgbojaihhknaaaW.PrintWords Go.Proofs.YtdgbojaihhknaaaW.PrintLast Go.Proofs.YtdgbojaihhknaaaW.PrintMore
set_option linter.unusedVariables false
set_option linter.unusedSimpArgs false
def doShareR (m : List (List Int)) (a s l c b t u d : Int) : Bool × Bool := if both m a s l c b t u d = true then (decide (0 < ov a s l b t u), true) else (false, false)
theorem doShare_spec (m : List (List Int)) (hm : Fit m) (a s l c b t u d : Int) (hs : -9223372036854775808 ≤ s ∧ s ≤ 9223372036854775807) (ht : -9223372036854775808 ≤ t ∧ t ≤ 9223372036854775807) : Ev (fun k => spec_DoShare.f k m a s l c b t u d) (doShareR m a s l c b t u d) := by
  obtain ⟨K, hK⟩ := l2Both_ev m hm a s l c b t u d hs ht
  refine ⟨K, fun k hk => ?_⟩
  have e1 := hK k hk
  dsimp only at e1 ⊢
  unfold doShareR
  simp only [spec_DoShare.f, e1, Option.bind_some]
  by_cases h : both m a s l c b t u d = true
  · obtain ⟨h1, h2, _, _⟩ := both_sm h
    rw [if_pos h, if_pos h, overlap_eq a s l c b t u d h1 h2]
    rfl
  · rw [if_neg h, if_neg h]
theorem doShare_impl (m : List (List Int)) (hm : Fit m) (a s l c b t u d : Int) : Ev (fun k => impl_DoShare.f k m a s l c b t u d) (doShareR m a s l c b t u d) := by
  obtain ⟨K, hK⟩ := areOn2_ev m hm a s l c b t u d
  refine ⟨K, fun k hk => ?_⟩
  have e1 := hK k hk
  dsimp only at e1 ⊢
  unfold doShareR
  simp only [impl_DoShare.f, e1, Option.bind_some]
  by_cases h : both m a s l c b t u d = true
  · obtain ⟨h1, h2, _, _⟩ := both_sm h
    rw [if_pos h, if_pos h, shared_eq a s l c b t u d h1 h2]
    rfl
  · rw [if_neg h, if_neg h]
def commonR (m : List (List Int)) (a s l c b t u d : Int) : Int × Int × Bool := if both m a s l c b t u d = true then (ov a s l b t u, if 0 < ov a s l b t u then mx s t else -1, true) else (0, 0, false)
theorem common_spec (m : List (List Int)) (hm : Fit m) (a s l c b t u d : Int) (hs : -9223372036854775808 ≤ s ∧ s ≤ 9223372036854775807) (ht : -9223372036854775808 ≤ t ∧ t ≤ 9223372036854775807) : Ev (fun k => spec_CommonPlaces.f k m a s l c b t u d) (commonR m a s l c b t u d) := by
  obtain ⟨K, hK⟩ := l2Both_ev m hm a s l c b t u d hs ht
  refine ⟨K, fun k hk => ?_⟩
  have e1 := hK k hk
  dsimp only at e1 ⊢
  unfold commonR
  simp only [spec_CommonPlaces.f, e1, Option.bind_some]
  by_cases h : both m a s l c b t u d = true
  · obtain ⟨h1, h2, _, _⟩ := both_sm h
    have h3 := ov_nonneg a s l b t u
    rw [if_pos h, if_pos h, overlap_eq a s l c b t u d h1 h2, Option.bind_some]
    by_cases h0 : ov a s l b t u = 0
    · rw [if_pos h0, h0]; rfl
    · rw [if_neg h0, most_eq, Option.bind_some, if_pos (show 0 < ov a s l b t u by omega)]
  · rw [if_neg h, if_neg h]
theorem common_impl (m : List (List Int)) (hm : Fit m) (a s l c b t u d : Int) : Ev (fun k => impl_CommonPlaces.f k m a s l c b t u d) (commonR m a s l c b t u d) := by
  obtain ⟨K, hK⟩ := areOn2_ev m hm a s l c b t u d
  refine ⟨K, fun k hk => ?_⟩
  have e1 := hK k hk
  dsimp only at e1 ⊢
  unfold commonR
  simp only [impl_CommonPlaces.f, e1, Option.bind_some]
  by_cases h : both m a s l c b t u d = true
  · obtain ⟨h1, h2, _, _⟩ := both_sm h
    rw [if_pos h, if_pos h, common_eq a s l c b t u d h1 h2, Option.bind_some]
  · rw [if_neg h, if_neg h]
def areNearR (m : List (List Int)) (a s l c b t u d : Int) : Bool × Bool := if both m a s l c b t u d = true then (decide (0 < ov a s c b t d), true) else (false, false)
theorem full_eq (a s l c : Int) (h : Sm s c) : spec_l3Full.f a s l c = some (a, s, c, c) := by
  unfold Sm at h
  unfold spec_l3Full.f spec_l2Slice.f
  simp only [Option.bind_some]
  rw [wrap_in (x := s + 0) (by omega) (by omega), wrap_in (x := c - 0) (by omega) (by omega), Int.add_zero, Int.sub_zero]
theorem areNear_spec (m : List (List Int)) (hm : Fit m) (a s l c b t u d : Int) (hs : -9223372036854775808 ≤ s ∧ s ≤ 9223372036854775807) (ht : -9223372036854775808 ≤ t ∧ t ≤ 9223372036854775807) : Ev (fun k => spec_AreNear.f k m a s l c b t u d) (areNearR m a s l c b t u d) := by
  obtain ⟨K, hK⟩ := l2Both_ev m hm a s l c b t u d hs ht
  refine ⟨K, fun k hk => ?_⟩
  have e1 := hK k hk
  dsimp only at e1 ⊢
  unfold areNearR
  simp only [spec_AreNear.f, e1, Option.bind_some]
  by_cases h : both m a s l c b t u d = true
  · obtain ⟨_, _, h3, h4⟩ := both_sm h
    rw [if_pos h, if_pos h, full_eq a s l c h3, full_eq b t u d h4]
    simp only [Option.bind_some]
    rw [overlap_eq a s c c b t d d h3 h4]
    rfl
  · rw [if_neg h, if_neg h]
theorem areNear_impl (m : List (List Int)) (hm : Fit m) (a s l c b t u d : Int) : Ev (fun k => impl_AreNear.f k m a s l c b t u d) (areNearR m a s l c b t u d) := by
  obtain ⟨K, hK⟩ := areOn2_ev m hm a s l c b t u d
  refine ⟨K, fun k hk => ?_⟩
  have e1 := hK k hk
  dsimp only at e1 ⊢
  unfold areNearR
  simp only [impl_AreNear.f, e1, Option.bind_some]
  by_cases h : both m a s l c b t u d = true
  · obtain ⟨_, _, h3, h4⟩ := both_sm h
    rw [if_pos h, if_pos h]
    simp only [impl_Window_wide.f, Option.bind_some]
    rw [shared_eq a s c c b t d d h3 h4]
    rfl
  · rw [if_neg h, if_neg h]
end Go.Proofs.Ytdgbojaihhknaaa.P
