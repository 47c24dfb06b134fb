/- The law FnExactSameBytes answers true for every input. No condition beyond the row's own. -/
import Derived.Test.YtdgbojaihhknaaaStFnExactSameBytes
import Derived.Test.YtdgbojaihhknaaaOrder
namespace Go.Proofs.Ytdgbojaihhknaaa.P
open Go.RowKit Go.Proofs.YtdgbojaihhknaaaW.PrintWords Go.Proofs.YtdgbojaihhknaaaW.PrintLast Go.Proofs.YtdgbojaihhknaaaW.PrintMore
set_option linter.unusedVariables false
set_option linter.unusedSimpArgs false
theorem FnExactSameBytes_ok : FnExactSameBytesPure := by
  intro m a s l c b t u d hm ha hs hl hc hb ht hu hd
  have hfit : Fit m := ⟨hm.1, fun a ha => (hm.2 a ha).1⟩
  have hs' := wf64 hs
  have hl' := wf64 hl
  have hc' := wf64 hc
  have ht' := wf64 ht
  obtain ⟨r, ⟨K0, h0⟩, hz⟩ := szMem m hfit
  dsimp only at h0
  by_cases hr : r < 0
  · exact ⟨K0, by simp only [laws_FnExactSameBytes.f, h0 K0 (Nat.le_refl _), Option.bind_some]; rw [if_pos hr]⟩
  · obtain ⟨hsm, _⟩ := hz hr
    obtain ⟨K1, h1⟩ := toMem m hsm
    obtain ⟨K4, h4⟩ := eqMem m hfit
    obtain ⟨K2, h2⟩ := sameBytes_spec m hfit a s l c b t u d hs' ht'
    obtain ⟨K3, h3⟩ := sameBytes_impl m hfit (fun r hr' y hy' => wfu8 ((hm.2 r hr').2 y hy')) a s l c b t u d
    dsimp only at h1 h2 h3 h4
    obtain ⟨K, hK⟩ : ∃ K, K = K0 + K1 + K2 + K3 + K4 := ⟨_, rfl⟩
    refine ⟨K + 1, ?_⟩
    have e0 := h0 (K + 1) (by omega); have e1 := h1 (K + 1) (by omega); have e2 := h2 (K + 1) (by omega); have e3 := h3 (K + 1) (by omega); have e4 := h4 K (by omega); have e6 := h1 K (by omega)
    simp only [laws_FnExactSameBytes.f, laws_toWindow.f, e0, e1, e2, e3, Option.bind_some]
    rw [if_neg hr]
    simp [laws_FnExactSameBytes.j0, e4, e6]
end Go.Proofs.Ytdgbojaihhknaaa.P
