/- The law FnExactWorstWaste answers true for every rule and list. No condition beyond the row's own. -/
import Derived.Test.YthocimpklhfahaaStFnExactWorstWaste
import Derived.Test.YthocimpklhfahaaAllSpec
import Derived.Test.YthocimpklhfahaaInts
import Derived.Test.YthocimpklhfahaaAppCalls
namespace Go.Proofs.Ythocimpklhfahaa.P
open Go.RowKit Go.Proofs.YthocimpklhfahaaW.PrintWords Go.Proofs.YthocimpklhfahaaW.PrintLast Go.Proofs.YthocimpklhfahaaW.PrintMore
set_option linter.unusedVariables false
set_option linter.unusedSimpArgs false
theorem wst_eq : ∀ (l : List Int) (r0 r1 r2 : Int) (i : Nat) (s : Int × Int × Int × Int) (vs : List (Int × Int × Int × Int)) (w : Int), i + l.length ≤ 40 → InA i s → visits r0 r1 r2 l s = some vs → vs.foldl (fun b v => mx b (wrap64 (v.2.1 - v.1))) w = wst vs w
  | [], r0, r1, r2, i, s, vs, w, hi, h, e => by simp only [visits, Option.some.injEq] at e; subst e; rfl
  | n :: l, r0, r1, r2, i, s, vs, w, hi, h, e => by
    simp only [List.length_cons] at hi
    simp only [visits] at e
    obtain ⟨s', e1, e2⟩ := Option.bind_eq_some_iff.mp e
    obtain ⟨vs', e3, e4⟩ := Option.bind_eq_some_iff.mp e2
    obtain rfl := Option.some.inj e4
    have hs := InA.step h (by omega) e1
    obtain ⟨q1, q2, q3, _, _⟩ := id hs
    have ih := wst_eq l r0 r1 r2 (i + 1) s' vs' (mx w (s'.2.1 - s'.1)) (by omega) hs e3
    simp only [List.foldl_cons, wst] at ih ⊢
    rw [wrap_in (x := s'.2.1 - s'.1) (by omega) (by omega)]
    exact ih
theorem FnExactWorstWaste_ok : FnExactWorstWastePure := by
  intro r0 r1 r2 l _ _ _ hl
  by_cases hlen : (l.length : Int) > 1048576
  · exact ⟨0, by simp only [laws_FnExactWorstWaste.f]; rw [if_pos hlen]⟩
  · obtain ⟨K1, h1⟩ := toInts l (by omega)
    obtain ⟨K2, h2⟩ := eqInts l (by omega)
    obtain ⟨K3, h3⟩ := spec_all r0 r1 r2 l (fun n hn => wf64 (hl.2 n hn))
    obtain ⟨q1, q2⟩ := impl_all (fun b s0 s1 s2 s3 => mx b (wrap64 (s1 - s0))) r0 r1 r2 l 0
    dsimp only at h1 h2 h3
    obtain ⟨K, hK⟩ : ∃ K, K = K1 + K2 + K3 := ⟨_, rfl⟩
    refine ⟨K + 1, ?_⟩
    have e1 := h1 (K + 1) (by omega); have e2 := h1 K (by omega); have e3 := h2 K (by omega); have e4 := h3 (K + 1) (by omega)
    simp only [laws_FnExactWorstWaste.f, laws_toGrowRule.f, Option.bind_some, e1, spec_WorstWaste.f, e4]
    rw [if_neg hlen]
    unfold impl_WorstWaste.f
    cases ev : allC r0 r1 r2 l with
    | none =>
      obtain ⟨b', e5⟩ := q2 ev
      rw [e5]
      simp [allR, laws_FnExactWorstWaste.j0, e2, e3]
    | some vs =>
      have e5 := q1 vs ev
      have hv : vs.foldl (fun b v => mx b (wrap64 (v.2.1 - v.1))) 0 = wst vs 0 := by
        have ev' := ev
        unfold allC at ev'
        split at ev'
        · split at ev'
          · rename_i h2
            exact wst_eq l r0 r1 r2 0 (0, 0, 0, 0) vs 0 (by omega) InA0 ev'
          · cases ev'
        · cases ev'
      rw [e5]
      simp [allR, laws_FnExactWorstWaste.j0, e2, e3, hv, if_true]
end Go.Proofs.Ythocimpklhfahaa.P
