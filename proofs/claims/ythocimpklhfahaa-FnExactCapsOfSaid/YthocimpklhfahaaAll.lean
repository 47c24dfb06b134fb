/- Plain lemmas: lists of appends in both programs are one fold. No program, no memory. -/
import Derived.Test.YthocimpklhfahaaL4
import Derived.Test.YthocimpklhfahaaApps
import Derived.Test.YthocimpklhfahaaRule
import Derived.Test.YthocimpklhfahaaPx2
import Derived.Test.YthocimpklhfahaaPx4
import Derived.Test.YthocimpklhfahaaInts
namespace Go.Proofs.Ythocimpklhfahaa.P
open Go.RowKit Go.Proofs.YthocimpklhfahaaW.PrintWords Go.Proofs.YthocimpklhfahaaW.PrintLast Go.Proofs.YthocimpklhfahaaW.PrintMore
set_option linter.unusedVariables false
set_option linter.unusedSimpArgs false
/-- One append of n: (length, cap, moves, cost), or none. -/
def stp (r0 r1 r2 n : Int) (s : Int × Int × Int × Int) : Option (Int × Int × Int × Int) :=
  if (0 ≤ n ∧ n ≤ 1000000) ∧ s.1 + n ≤ 1000000 ∧ nxt r0 r1 r2 s.1 s.2.1 n ≤ 1000000 then
    (if s.2.1 < s.1 + n then some (s.1 + n, nxt r0 r1 r2 s.1 s.2.1 n, s.2.2.1 + 1, s.2.2.2 + n + s.1) else some (s.1 + n, s.2.1, s.2.2.1, s.2.2.2 + n))
  else none
/-- The states behind each append, or none. -/
def visits (r0 r1 r2 : Int) : List Int → Int × Int × Int × Int → Option (List (Int × Int × Int × Int))
  | [], _ => some []
  | n :: l, s => (stp r0 r1 r2 n s).bind fun s' => (visits r0 r1 r2 l s').bind fun vs => some (s' :: vs)
def fin (vs : List (Int × Int × Int × Int)) (s : Int × Int × Int × Int) : Int × Int × Int × Int := vs.foldl (fun _ v => v) s
def wst (vs : List (Int × Int × Int × Int)) (w : Int) : Int := vs.foldl (fun w v => mx w (v.2.1 - v.1)) w
def InA (i : Nat) (s : Int × Int × Int × Int) : Prop := i ≤ 40 ∧ (0 ≤ s.1 ∧ s.1 ≤ 1000000) ∧ (0 ≤ s.2.1 ∧ s.2.1 ≤ 1000000) ∧ (0 ≤ s.2.2.1 ∧ s.2.2.1 ≤ i) ∧ (0 ≤ s.2.2.2 ∧ s.2.2.2 ≤ 2000000 * i)
theorem nxt_grow {r0 r1 r2 l c n : Int} (h : c < l + n) : nxt r0 r1 r2 l c n = mx (mx (c * r0 / r1 + r2) (l + n)) (c + 1) ∧ c < nxt r0 r1 r2 l c n ∧ l + n ≤ nxt r0 r1 r2 l c n := by
  have e : nxt r0 r1 r2 l c n = mx (mx (c * r0 / r1 + r2) (l + n)) (c + 1) := by unfold nxt; rw [if_pos h]
  have h5 := mx_ge (mx (c * r0 / r1 + r2) (l + n)) (c + 1)
  have h6 := mx_ge (c * r0 / r1 + r2) (l + n)
  rw [e]
  exact ⟨rfl, by omega, by omega⟩
theorem nxt_stay {r0 r1 r2 l c n : Int} (h : ¬ c < l + n) : nxt r0 r1 r2 l c n = c := by unfold nxt; rw [if_neg h]
theorem InA.step {r0 r1 r2 n : Int} {i : Nat} {s s' : Int × Int × Int × Int} (h : InA i s) (hi : i < 40) (e : stp r0 r1 r2 n s = some s') : InA (i + 1) s' := by
  obtain ⟨h1, h2, h3, h4, h5⟩ := h
  unfold stp at e
  split at e
  · rename_i hc
    split at e
    · rename_i hlt
      have := nxt_grow (r0 := r0) (r1 := r1) (r2 := r2) hlt
      obtain rfl := Option.some.inj e
      refine ⟨by omega, ?_, ?_, ?_, ?_⟩ <;> dsimp only <;> omega
    · obtain rfl := Option.some.inj e
      refine ⟨by omega, ?_, ?_, ?_, ?_⟩ <;> dsimp only <;> omega
  · cases e
theorem l4Do_ok (r0 r1 r2 n : Int) (i : Nat) (s s' : Int × Int × Int × Int) (w : Int) (out : List Int) (hr : ruleOk r0 r1 r2 = true) (h : InA i s) (e : stp r0 r1 r2 n s = some s') (k : Nat) :
    spec_l4Do.f (k + 1) r0 r1 r2 0 out s.2.2.1 s.2.2.2 w s.1 s.2.1 n = some (out, s'.2.2.1, s'.2.2.2, mx w (s'.2.1 - s'.1), s'.1, s'.2.1, true) := by
  obtain ⟨h1, h2, h3, h4, h5⟩ := h
  unfold stp at e
  split at e
  · rename_i hc
    have hj : spec_l4Do.f (k + 1) r0 r1 r2 0 out s.2.2.1 s.2.2.2 w s.1 s.2.1 n = spec_l4Do.j0 (k + 1) n false r0 r1 r2 out s.2.2.1 s.2.2.2 w s.1 s.2.1 := by
      unfold spec_l4Do.f
      rw [if_pos (by omega), size_eq, Option.bind_some, show inB n 0 1000000 = true from (inB_iff _ _ _).mpr (by omega), if_pos rfl, wrap_in (x := s.1 + n) (by omega) (by omega), size_eq, Option.bind_some, show inB (s.1 + n) 0 1000000 = true from (inB_iff _ _ _).mpr (by omega)]
      rfl
    rw [hj, spec_l4Do.j0, if_neg (by decide), nxt_eq r0 r1 r2 s.1 s.2.1 n hr (by omega) (by omega) (by omega), Option.bind_some]
    split at e
    · rename_i hlt
      obtain ⟨_, b1, b2⟩ := nxt_grow (r0 := r0) (r1 := r1) (r2 := r2) hlt
      obtain rfl := Option.some.inj e
      rw [if_pos (by omega), most_mx, Option.bind_some, size_eq, Option.bind_some, show inB (nxt r0 r1 r2 s.1 s.2.1 n) 0 1000000 = true from (inB_iff _ _ _).mpr (by omega)]
      rw [wrap_in (x := s.2.2.1 + 1) (by omega) (by omega), wrap_in (x := s.2.2.2 + s.1) (by omega) (by omega), wrap_in (x := s.2.2.2 + s.1 + n) (by omega) (by omega), wrap_in (x := s.1 + n) (by omega) (by omega), wrap_in (x := nxt r0 r1 r2 s.1 s.2.1 n - (s.1 + n)) (by omega) (by omega), show s.2.2.2 + s.1 + n = s.2.2.2 + n + s.1 by omega]
    · rename_i hlt
      have en := nxt_stay (r0 := r0) (r1 := r1) (r2 := r2) hlt
      obtain rfl := Option.some.inj e
      rw [en, if_neg (by omega), most_mx, Option.bind_some, size_eq, Option.bind_some, show inB s.2.1 0 1000000 = true from (inB_iff _ _ _).mpr (by omega)]
      rw [wrap_in (x := s.2.2.2 + n) (by omega) (by omega), wrap_in (x := s.1 + n) (by omega) (by omega), wrap_in (x := s.2.1 - (s.1 + n)) (by omega) (by omega)]
  · cases e
theorem l4Do_no (r0 r1 r2 n : Int) (i : Nat) (s : Int × Int × Int × Int) (w : Int) (out : List Int) (hr : ruleOk r0 r1 r2 = true) (h : InA i s) (hn : -9223372036854775808 ≤ n ∧ n ≤ 9223372036854775807) (e : stp r0 r1 r2 n s = none) (k : Nat) :
    ∃ a b c d f g, spec_l4Do.f (k + 1) r0 r1 r2 0 out s.2.2.1 s.2.2.2 w s.1 s.2.1 n = some (a, b, c, d, f, g, false) := by
  obtain ⟨h1, h2, h3, h4, h5⟩ := h
  unfold spec_l4Do.f
  by_cases hn0 : n ≥ 0
  · rw [if_pos hn0, size_eq, Option.bind_some]
    by_cases hb : inB n 0 1000000 = true
    · have b1 := (inB_iff _ _ _).mp hb
      rw [if_pos hb, wrap_in (x := s.1 + n) (by omega) (by omega), size_eq, Option.bind_some]
      by_cases hb2 : inB (s.1 + n) 0 1000000 = true
      · have b2 := (inB_iff _ _ _).mp hb2
        rw [hb2, show (!true) = false from rfl, spec_l4Do.j0, if_neg (by decide), nxt_eq r0 r1 r2 s.1 s.2.1 n hr (by omega) (by omega) (by omega), Option.bind_some]
        have hbad : ¬ nxt r0 r1 r2 s.1 s.2.1 n ≤ 1000000 := by
          intro h7
          unfold stp at e
          rw [if_pos ⟨b1, b2.2, h7⟩] at e
          split at e <;> cases e
        have hlt : s.2.1 < s.1 + n := by
          refine Classical.byContradiction fun h8 => hbad ?_
          rw [nxt_stay h8]; omega
        rw [if_pos (by omega), most_mx, Option.bind_some, size_eq, Option.bind_some, show inB (nxt r0 r1 r2 s.1 s.2.1 n) 0 1000000 = false from Bool.eq_false_iff.mpr (fun h => hbad ((inB_iff _ _ _).mp h).2)]
        exact ⟨_, _, _, _, _, _, rfl⟩
      · rw [Bool.eq_false_iff.mpr hb2, show (!false) = true from rfl, spec_l4Do.j0, if_pos rfl]
        exact ⟨_, _, _, _, _, _, rfl⟩
    · rw [if_neg hb, spec_l4Do.j0, if_pos rfl]
      exact ⟨_, _, _, _, _, _, rfl⟩
  · rw [if_neg hn0, if_pos rfl, spec_l4Do.j1, if_pos rfl]
    exact ⟨_, _, _, _, _, _, rfl⟩
theorem grow_ok (r0 r1 r2 n : Int) (i : Nat) (s s' : Int × Int × Int × Int) (hr : ruleOk r0 r1 r2 = true) (h : InA i s) (e : stp r0 r1 r2 n s = some s') : impl_store_grow.f s.1 s.2.1 s.2.2.1 s.2.2.2 r0 r1 r2 n = some (true, s') := by
  have hr' := ruleOk_iff.mp hr
  obtain ⟨h1, h2, h3, h4, h5⟩ := h
  unfold stp at e
  split at e
  · rename_i hc
    unfold impl_store_grow.f
    rw [if_pos (by omega), if_pos (by omega)]
    split at e
    · rename_i hlt
      obtain ⟨q, _, _⟩ := nxt_grow (r0 := r0) (r1 := r1) (r2 := r2) hlt
      obtain rfl := Option.some.inj e
      rw [if_pos hlt, ← q, decide_eq_true hc.2.2]
    · rename_i hlt
      obtain rfl := Option.some.inj e
      rw [if_neg hlt]
  · cases e
theorem grow_no (r0 r1 r2 n : Int) (i : Nat) (s : Int × Int × Int × Int) (hr : ruleOk r0 r1 r2 = true) (h : InA i s) (e : stp r0 r1 r2 n s = none) : ∃ t, impl_store_grow.f s.1 s.2.1 s.2.2.1 s.2.2.2 r0 r1 r2 n = some (false, t) := by
  have hr' := ruleOk_iff.mp hr
  obtain ⟨h1, h2, h3, h4, h5⟩ := h
  unfold impl_store_grow.f
  by_cases hn : 0 ≤ n ∧ n ≤ 1000000
  · rw [if_pos hn, if_pos (by omega)]
    have hlt : s.2.1 < s.1 + n := by
      refine Classical.byContradiction fun h8 => ?_
      unfold stp at e
      rw [if_pos ⟨hn, by omega, by rw [nxt_stay h8]; omega⟩] at e
      split at e <;> cases e
    obtain ⟨q, _, q2⟩ := nxt_grow (r0 := r0) (r1 := r1) (r2 := r2) hlt
    rw [if_pos hlt, ← q]
    have : ¬ nxt r0 r1 r2 s.1 s.2.1 n ≤ 1000000 := by
      intro h7
      unfold stp at e
      rw [if_pos ⟨hn, by omega, h7⟩] at e
      split at e <;> cases e
    rw [decide_eq_false this]
    exact ⟨_, rfl⟩
  · rw [if_neg hn]
    exact ⟨_, rfl⟩
theorem apps_ev {β : Type} (st : β → Int → Int → Int → Int → β) (r0 r1 r2 : Int) (hr : ruleOk r0 r1 r2 = true) : ∀ (l : List Int) (i : Nat) (s : Int × Int × Int × Int) (b : β), i + l.length ≤ 40 → InA i s →
    (∀ vs, visits r0 r1 r2 l s = some vs → appsF st r0 r1 r2 l s.1 s.2.1 s.2.2.1 s.2.2.2 b = some (true, (fin vs s).1, (fin vs s).2.1, (fin vs s).2.2.1, (fin vs s).2.2.2, vs.foldl (fun b v => st b v.1 v.2.1 v.2.2.1 v.2.2.2) b)) ∧
    (visits r0 r1 r2 l s = none → ∃ b', appsF st r0 r1 r2 l s.1 s.2.1 s.2.2.1 s.2.2.2 b = some (false, 0, 0, 0, 0, b'))
  | [], i, s, b, hi, h => ⟨fun vs hv => by simp only [visits, Option.some.injEq] at hv; subst hv; rfl, fun hv => by simp [visits] at hv⟩
  | n :: l, i, s, b, hi, h => by
    simp only [List.length_cons] at hi
    simp only [visits, appsF]
    cases e : stp r0 r1 r2 n s with
    | none =>
      obtain ⟨t, ht⟩ := grow_no r0 r1 r2 n i s hr h e
      rw [ht]
      simp
    | some s' =>
      rw [grow_ok r0 r1 r2 n i s s' hr h e]
      obtain ⟨q1, q2⟩ := apps_ev st r0 r1 r2 hr l (i + 1) s' (st b s'.1 s'.2.1 s'.2.2.1 s'.2.2.2) (by omega) (InA.step h (by omega) e)
      simp only [Option.bind_some, if_true]
      cases ev : visits r0 r1 r2 l s' with
      | none =>
        refine ⟨fun vs hv => by simp at hv, fun _ => q2 ev⟩
      | some vs =>
        refine ⟨fun vs' hv => ?_, fun hv => by simp at hv⟩
        simp only [Option.bind_some, Option.some.injEq] at hv
        subst hv
        exact q1 vs ev
end Go.Proofs.Ythocimpklhfahaa.P
