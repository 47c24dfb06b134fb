/- The law FnExactIsWindow answers true for every memory and window. No condition beyond the row's own. -/
import Derived.Test.YtgoglifmohpfdaaStFnExactIsWindow
import Derived.Test.YtgoglifmohpfdaaWin
namespace Go.Proofs.Ytgoglifmohpfdaa.P
open Go.RowKit Go.Proofs.YtgoglifmohpfdaaW.PrintWords Go.Proofs.YtgoglifmohpfdaaW.PrintLast Go.Proofs.YtgoglifmohpfdaaW.PrintMore
theorem FnExactIsWindow_ok : FnExactIsWindowPure := by
  intro m a s l c hm ha hs hl hc
  have hfit : Fit m := ⟨hm.1, fun a ha => (hm.2 a ha).1⟩
  have hs' := wf64 hs
  obtain ⟨r, ⟨K0, h0⟩, hz⟩ := szMem m hfit
  dsimp only at h0
  by_cases hr : r < 0
  · exact ⟨K0, by simp only [laws_FnExactIsWindow.f, h0 K0 (Nat.le_refl _), Option.bind_some]; rw [if_pos hr]⟩
  · obtain ⟨hsm, _⟩ := hz hr
    obtain ⟨K1, h1⟩ := toMem m hsm
    obtain ⟨K2, h2⟩ := l2Mem m hfit.1
    obtain ⟨K3, h3⟩ := isMem m hfit.1
    obtain ⟨K4, h4⟩ := eqMem m hfit
    obtain ⟨K5, h5⟩ := l2Win m hfit a s l c hs'
    dsimp only at h1 h2 h3 h4 h5
    obtain ⟨K, hK⟩ : ∃ K, K = K0 + K1 + K2 + K3 + K4 + K5 := ⟨_, rfl⟩
    refine ⟨K + 1, ?_⟩
    have e0 := h0 (K + 1) (by omega); have e1 := h1 (K + 1) (by omega); have e2 := h2 (K + 1) (by omega); have e3 := h3 (K + 1) (by omega); have e5 := h5 (K + 1) (by omega); have e4 := h4 K (by omega); have e6 := h1 K (by omega)
    simp only [laws_FnExactIsWindow.f, spec_IsWindow.f, impl_IsWindow.f, laws_toWindow.f, e0, e1, e2, e3, e5, hasWin m hfit, Option.bind_some]
    rw [if_neg hr]
    cases hok : memOk m with
    | false => simp [laws_FnExactIsWindow.j0, e4, e6]
    | true => simp [laws_FnExactIsWindow.j0, e4, e6]
end Go.Proofs.Ytgoglifmohpfdaa.P
