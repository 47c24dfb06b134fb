/- The law FnExactAreWatched answers true for every input. No condition beyond the row's own. -/
import Derived.Test.YtdgbojaihhknaaaStFnExactAreWatched
import Derived.Test.YtdgbojaihhknaaaWatch
namespace Go.Proofs.Ytdgbojaihhknaaa.P
open Go.RowKit Go.Proofs.YtdgbojaihhknaaaW.PrintWords Go.Proofs.YtdgbojaihhknaaaW.PrintLast Go.Proofs.YtdgbojaihhknaaaW.PrintMore
set_option linter.unusedVariables false
set_option linter.unusedSimpArgs false
theorem FnExactAreWatched_ok : FnExactAreWatchedPure := by
  intro m l hm hl
  have hfit : Fit m := ⟨hm.1, fun a ha => (hm.2 a ha).1⟩
  have hw : ∀ x ∈ l.map cvW, wf4 x := fun x hx => by
    obtain ⟨y, hy, rfl⟩ := List.mem_map.mp hx
    exact wf64 (hl.2 y hy).2.1
  obtain ⟨r, ⟨K0, h0⟩, hz⟩ := szMem m hfit
  dsimp only at h0
  by_cases hr : r < 0
  · exact ⟨K0, by simp only [laws_FnExactAreWatched.f, h0 K0 (Nat.le_refl _), Option.bind_some]; rw [if_pos hr]⟩
  · obtain ⟨hsm, hr1⟩ := hz hr
    obtain ⟨r2, hq, hz2⟩ := szWins l r hl.1 hr hr1
    by_cases hr2 : r2 < 0
    · exact ⟨K0, by simp only [laws_FnExactAreWatched.f, h0 K0 (Nat.le_refl _), Option.bind_some]; rw [if_neg hr, hq, Option.bind_some, if_pos hr2]⟩
    · obtain ⟨hlen, _⟩ := hz2 hr2
      have hlen' : (l.map cvW).length ≤ 1048576 := by rw [List.length_map]; exact hlen
      obtain ⟨K1, h1⟩ := toMem m hsm
      obtain ⟨K4, h4⟩ := eqMem m hfit
      obtain ⟨K5, h5⟩ := toWins l hlen
      obtain ⟨K6, h6⟩ := eqWins (l.map cvW) (by omega)
      obtain ⟨K2, h2⟩ := areWatched_spec m hfit (l.map cvW) hw hlen'
      obtain ⟨K3, h3⟩ := areWatched_impl m hfit (l.map cvW)
      dsimp only at h1 h2 h3 h4 h5 h6
      obtain ⟨K, hK⟩ : ∃ K, K = K0 + K1 + K2 + K3 + K4 + K5 + K6 := ⟨_, rfl⟩
      refine ⟨K + 1, ?_⟩
      have e0 := h0 (K + 1) (by omega); have e1 := h1 (K + 1) (by omega); have e2 := h2 (K + 1) (by omega); have e3 := h3 (K + 1) (by omega); have e5 := h5 (K + 1) (by omega); have e4 := h4 K (by omega); have e6 := h1 K (by omega); have e7 := h5 K (by omega); have e8 := h6 K (by omega)
      simp only [laws_FnExactAreWatched.f, e0, e1, e2, e3, e5, hq, Option.bind_some]
      rw [if_neg hr, if_neg hr2]
      simp [laws_FnExactAreWatched.j0, e4, e6, e7, e8]
end Go.Proofs.Ytdgbojaihhknaaa.P
