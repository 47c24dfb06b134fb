/- The law FnExactWholeWindow answers true for every memory and number. No condition beyond the row's own. -/
import Derived.Test.YtgoglifmohpfdaaStFnExactWholeWindow
import Derived.Test.YtgoglifmohpfdaaWin
namespace Go.Proofs.Ytgoglifmohpfdaa.P
open Go.RowKit Go.Proofs.YtgoglifmohpfdaaW.PrintWords Go.Proofs.YtgoglifmohpfdaaW.PrintLast Go.Proofs.YtgoglifmohpfdaaW.PrintMore
theorem FnExactWholeWindow_ok : FnExactWholeWindowPure := by
  intro m a hm ha
  have hfit : Fit m := ⟨hm.1, fun a ha => (hm.2 a ha).1⟩
  have hmax := hfit.1
  obtain ⟨r, ⟨K0, h0⟩, hz⟩ := szMem m hfit
  dsimp only at h0
  by_cases hr : r < 0
  · exact ⟨K0, by simp only [laws_FnExactWholeWindow.f, h0 K0 (Nat.le_refl _), Option.bind_some]; rw [if_pos hr]⟩
  · obtain ⟨hsm, _⟩ := hz hr
    obtain ⟨K1, h1⟩ := toMem m hsm
    obtain ⟨K2, h2⟩ := l2Mem m hfit.1
    obtain ⟨K3, h3⟩ := isMem m hfit.1
    obtain ⟨K4, h4⟩ := eqMem m hfit
    dsimp only at h1 h2 h3 h4
    obtain ⟨K, hK⟩ : ∃ K, K = K0 + K1 + K2 + K3 + K4 := ⟨_, rfl⟩
    refine ⟨K + 1, ?_⟩
    have e0 := h0 (K + 1) (by omega); have e1 := h1 (K + 1) (by omega); have e2 := h2 (K + 1) (by omega); have e3 := h3 (K + 1) (by omega); have e4 := h4 K (by omega); have e6 := h1 K (by omega)
    simp only [laws_FnExactWholeWindow.f, spec_WholeWindow.f, impl_WholeWindow.f, e0, e1, e2, e3, l1In_eq, hasArr m hfit.1, Option.bind_some]
    rw [if_neg hr, wrap_in (x := (m.length : Int) - 1) (by omega) (by omega)]
    cases hok : memOk m with
    | false => simp [laws_FnExactWholeWindow.j0, e4, e6, eqWin]
    | true =>
      by_cases h : 0 ≤ a ∧ a ≤ (m.length : Int) - 1
      · rw [show inB a 0 ((m.length : Int) - 1) = true from decide_eq_true h]
        have hlt : a < (m.length : Int) := by omega
        simp [laws_FnExactWholeWindow.j0, e4, e6, eqWin, h.1, hlt]
      · rw [show inB a 0 ((m.length : Int) - 1) = false from decide_eq_false h]
        simp [laws_FnExactWholeWindow.j0, e4, e6, eqWin]
end Go.Proofs.Ytgoglifmohpfdaa.P
