/- The law FnExactCapsOf answers true for every rule and list. No condition beyond the row's own. -/
import Derived.Test.YthocimpklhfahaaStFnExactCapsOf
import Derived.Test.YthocimpklhfahaaAllSpec
import Derived.Test.YthocimpklhfahaaInts
import Derived.Test.YthocimpklhfahaaCaps
import Derived.Test.YthocimpklhfahaaMkInts
namespace Go.Proofs.Ythocimpklhfahaa.P
open Go.RowKit Go.Proofs.YthocimpklhfahaaW.PrintWords Go.Proofs.YthocimpklhfahaaW.PrintLast Go.Proofs.YthocimpklhfahaaW.PrintMore
set_option linter.unusedVariables false
set_option linter.unusedSimpArgs false
theorem caps_fold (vs : List (Int × Int × Int × Int)) : ∀ b : List Int, vs.foldl (fun b v => b ++ [v.2.1]) b = b ++ vs.map (fun v => v.2.1) := by
  induction vs with
  | nil => intro b; simp
  | cons v vs ih => intro b; simp [ih]
theorem visits_len (r0 r1 r2 : Int) : ∀ (l : List Int) (s : Int × Int × Int × Int) (vs : List (Int × Int × Int × Int)), visits r0 r1 r2 l s = some vs → vs.length = l.length
  | [], s, vs, h => by simp only [visits, Option.some.injEq] at h; subst h; rfl
  | n :: l, s, vs, h => by
    simp only [visits] at h
    obtain ⟨s', e1, e2⟩ := Option.bind_eq_some_iff.mp h
    obtain ⟨vs', e3, e4⟩ := Option.bind_eq_some_iff.mp e2
    obtain rfl := Option.some.inj e4
    simp [visits_len r0 r1 r2 l s' vs' e3]
/-- What the law does behind both answers, alike as they are. -/
theorem capsEnd (l g : List Int) (ok : Bool) (r0 r1 r2 : Int) (hl : l.length ≤ 1048576) (hg : g.length ≤ 1048576) (hi : impl_CapsOf.f r0 r1 r2 l = some (g, ok)) : Ev (fun k => laws_FnExactCapsOf.j0 k l g ok l g ok false r0 r1 r2) true := by
  obtain ⟨K1, h1⟩ := toInts l hl
  obtain ⟨K2, h2⟩ := eqInts l (by omega)
  obtain ⟨K3, h3⟩ := eqInts g (by omega)
  obtain ⟨K4, h4⟩ := markInts l 1 hl (by omega) (by omega)
  obtain ⟨K5, h5⟩ := markInts g 1 hg (by omega) (by omega)
  obtain ⟨K6, h6⟩ := heldInts 1 g.length hg (by omega) (by omega)
  dsimp only at h1 h2 h3 h4 h5 h6
  refine ⟨K1 + K2 + K3 + K4 + K5 + K6 + 4, fun n hn => ?_⟩
  obtain ⟨k, rfl⟩ : ∃ k, n = k + 3 := ⟨n - 3, by omega⟩
  have hok : (ok != ok) = false := by cases ok <;> rfl
  dsimp only
  rw [laws_FnExactCapsOf.j0, if_neg (by decide), h1 (k + 2) (by omega), Option.bind_some, h2 (k + 2) (by omega), Option.bind_some, if_pos rfl, h4 (k + 2) (by omega), Option.bind_some, if_neg (by dsimp only; omega), h3 (k + 2) (by omega), Option.bind_some, if_pos rfl, hok]
  rw [laws_FnExactCapsOf.j1, if_neg (by decide), h5 (k + 1) (by omega), Option.bind_some]
  simp only [h6 (k + 1) (by omega), Option.bind_some]
  rw [if_neg (by omega), if_pos trivial]
  simp only [laws_toGrowRule.f, Option.bind_some, h1 (k + 1) (by omega), hi, h3 (k + 1) (by omega)]
  rw [if_pos trivial, hok, laws_FnExactCapsOf.j2, if_neg (by decide), h6 k (by omega), Option.bind_some, if_neg (by omega), if_pos rfl]
theorem FnExactCapsOf_ok : FnExactCapsOfPure := by
  intro r0 r1 r2 l _ _ _ hl
  by_cases hlen : (l.length : Int) > 1048576
  · exact ⟨0, by simp only [laws_FnExactCapsOf.f]; rw [if_pos hlen]⟩
  · have hl' : l.length ≤ 1048576 := by omega
    obtain ⟨K1, h1⟩ := toInts l hl'
    obtain ⟨K3, h3⟩ := spec_all r0 r1 r2 l (fun n hn => wf64 (hl.2 n hn))
    obtain ⟨q1, q2⟩ := impl_all (fun (b : List Int) _ s1 _ _ => b ++ [s1]) r0 r1 r2 l []
    have hx : ∃ g ok, impl_CapsOf.f r0 r1 r2 l = some (g, ok) ∧ g.length ≤ 1048576 ∧ (allR (allC r0 r1 r2 l) (0, 0, 0, 0) 0 []).1 = g ∧ (allR (allC r0 r1 r2 l) (0, 0, 0, 0) 0 []).2.2.2.2.2.2 = ok := by
      unfold impl_CapsOf.f
      cases ev : allC r0 r1 r2 l with
      | none =>
        obtain ⟨b', e5⟩ := q2 ev
        rw [e5]
        exact ⟨[], false, rfl, by simp, rfl, rfl⟩
      | some vs =>
        have e5 := q1 vs ev
        rw [e5]
        refine ⟨vs.map (fun v => v.2.1), true, ?_, ?_, by simp [allR], rfl⟩
        · simp only [Option.bind_some, if_true]
          rw [caps_fold]; simp
        · rw [List.length_map]
          have hv : vs.length = l.length := by
            unfold allC at ev
            split at ev
            · split at ev
              · exact visits_len r0 r1 r2 l _ vs ev
              · cases ev
            · cases ev
          omega
    obtain ⟨g, ok, hi, hg, e6, e7⟩ := hx
    obtain ⟨K5, h5⟩ := eqInts g (by omega)
    obtain ⟨K6, h6⟩ := capsEnd l g ok r0 r1 r2 hl' hg hi
    dsimp only at h1 h3 h5 h6
    obtain ⟨K, hK⟩ : ∃ K, K = K1 + K3 + K5 + K6 := ⟨_, rfl⟩
    refine ⟨K, ?_⟩
    have hok : (ok != ok) = false := by cases ok <;> rfl
    simp only [laws_FnExactCapsOf.f, laws_toGrowRule.f, Option.bind_some, h1 K (by omega), spec_CapsOf.f, h3 K (by omega), hi, e6, e7, h5 K (by omega), hok]
    rw [if_neg hlen, if_pos trivial]
    exact h6 K (by omega)
end Go.Proofs.Ythocimpklhfahaa.P
