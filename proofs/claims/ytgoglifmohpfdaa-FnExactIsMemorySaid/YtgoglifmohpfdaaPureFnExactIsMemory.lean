/- The law FnExactIsMemory answers true for every memory. No condition beyond the row's own. -/
import Derived.Test.YtgoglifmohpfdaaStFnExactIsMemory
import Derived.Test.YtgoglifmohpfdaaMem
namespace Go.Proofs.Ytgoglifmohpfdaa.P
open Go.RowKit Go.Proofs.YtgoglifmohpfdaaW.PrintWords Go.Proofs.YtgoglifmohpfdaaW.PrintLast Go.Proofs.YtgoglifmohpfdaaW.PrintMore
theorem FnExactIsMemory_ok : FnExactIsMemoryPure := by
  intro m hm
  have hfit : Fit m := ⟨hm.1, fun a ha => (hm.2 a ha).1⟩
  obtain ⟨r, ⟨K0, h0⟩, hs⟩ := szMem m hfit
  dsimp only at h0
  by_cases hr : r < 0
  · exact ⟨K0, by simp only [laws_FnExactIsMemory.f, h0 K0 (Nat.le_refl _), Option.bind_some]; rw [if_pos hr]⟩
  · obtain ⟨hsm, _⟩ := hs hr
    obtain ⟨K1, h1⟩ := toMem m hsm
    obtain ⟨K2, h2⟩ := l2Mem m hfit.1
    obtain ⟨K3, h3⟩ := isMem m hfit.1
    obtain ⟨K4, h4⟩ := eqMem m hfit
    dsimp only at h1 h2 h3 h4
    refine ⟨K0 + K1 + K2 + K3 + K4, ?_⟩
    simp only [laws_FnExactIsMemory.f, spec_IsMemory.f, h0 _ (by omega : K0 ≤ K0 + K1 + K2 + K3 + K4), h1 _ (by omega : K1 ≤ K0 + K1 + K2 + K3 + K4), h2 _ (by omega : K2 ≤ K0 + K1 + K2 + K3 + K4), h3 _ (by omega : K3 ≤ K0 + K1 + K2 + K3 + K4), h4 _ (by omega : K4 ≤ K0 + K1 + K2 + K3 + K4), Option.bind_some]
    rw [if_neg hr]
    simp
end Go.Proofs.Ytgoglifmohpfdaa.P
