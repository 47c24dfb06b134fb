/- The law FnExactFindByte answers true for every input. No condition beyond the row's own. -/
import Derived.Test.YthomfanpdnpmaaaStFnExactFindByte
import Derived.Test.YthomfanpdnpmaaaReadFind
namespace Go.Proofs.Ythomfanpdnpmaaa.P
open Go.RowKit Go.Proofs.YthomfanpdnpmaaaW.PrintWords Go.Proofs.YthomfanpdnpmaaaW.PrintLast Go.Proofs.YthomfanpdnpmaaaW.PrintMore
set_option linter.unusedVariables false
set_option linter.unusedSimpArgs false
theorem FnExactFindByte_ok : FnExactFindBytePure := by
  intro m a s l c x hm ha hs hl hc hx
  have hfit : Fit m := ⟨hm.1, fun a ha => (hm.2 a ha).1⟩
  have hs' := wf64 hs
  have hl' := wf64 hl
  have hc' := wf64 hc
  obtain ⟨r, ⟨K0, h0⟩, hz⟩ := szMem m hfit
  dsimp only at h0
  by_cases hr : r < 0
  · exact ⟨K0, by simp only [laws_FnExactFindByte.f, h0 K0 (Nat.le_refl _), Option.bind_some]; rw [if_pos hr]⟩
  · obtain ⟨hsm, _⟩ := hz hr
    obtain ⟨K1, h1⟩ := toMem m hsm
    obtain ⟨K4, h4⟩ := eqMem m hfit
    obtain ⟨K2, h2⟩ := findByte_spec m hfit a s l c x hs'
    obtain ⟨K3, h3⟩ := findByte_impl m hfit (fun r hr' y hy' => wfu8 ((hm.2 r hr').2 y hy')) a s l c x (wfu8 hx)
    dsimp only at h1 h2 h3 h4
    obtain ⟨K, hK⟩ : ∃ K, K = K0 + K1 + K2 + K3 + K4 := ⟨_, rfl⟩
    refine ⟨K + 1, ?_⟩
    have e0 := h0 (K + 1) (by omega); have e1 := h1 (K + 1) (by omega); have e2 := h2 (K + 1) (by omega); have e3 := h3 (K + 1) (by omega); have e4 := h4 K (by omega); have e6 := h1 K (by omega)
    simp only [laws_FnExactFindByte.f, laws_toWindow.f, e0, e1, e2, e3, Option.bind_some]
    rw [if_neg hr]
    simp [laws_FnExactFindByte.j0, e4, e6]
end Go.Proofs.Ythomfanpdnpmaaa.P
