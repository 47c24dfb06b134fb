/- Plain lemmas: lists of appends, the reference's loop, and what both answer. No program, no memory. -/
import Derived.Test.YthocimpklhfahaaAll
import Derived.Test.YthocimpklhfahaaPx4
import Derived.Test.YthocimpklhfahaaPx3
import Derived.Test.YthocimpklhfahaaInts
import Derived.Test.YthocimpklhfahaaBase
namespace Go.Proofs.Ythocimpklhfahaa.P
open Go.RowKit Go.Proofs.YthocimpklhfahaaW.PrintWords Go.Proofs.YthocimpklhfahaaW.PrintLast Go.Proofs.YthocimpklhfahaaW.PrintMore
set_option linter.unusedVariables false
set_option linter.unusedSimpArgs false
def allR (o : Option (List (Int × Int × Int × Int))) (s : Int × Int × Int × Int) (w : Int) (out : List Int) : List Int × Int × Int × Int × Int × Int × Bool :=
  match o with
  | some vs => (out ++ vs.map (fun v => v.2.1), (fin vs s).2.2.1, (fin vs s).2.2.2, wst vs w, (fin vs s).1, (fin vs s).2.1, true)
  | none => ([], 0, 0, 0, 0, 0, false)
theorem own_eq (l : List Int) (h : l.length ≤ 1000000) : spec_l1Own.f l = some l := by
  unfold spec_l1Own.f
  rw [Option.bind_some, if_pos (by simp only [List.length_nil]; omega), List.nil_append]
theorem all_l0 (r0 r1 r2 : Int) (hr : ruleOk r0 r1 r2 = true) (l : List Int) (hl : l.length ≤ 40) (hw : ∀ n ∈ l, -9223372036854775808 ≤ n ∧ n ≤ 9223372036854775807) (d : Nat) : ∀ (i : Nat) (s : Int × Int × Int × Int) (w : Int) (out : List Int), i + d = l.length → InA i s → out.length = i →
    Ev (fun k => spec_l4All.l0 k 0 l i r0 r1 r2 out s.2.2.1 s.2.2.2 w s.1 s.2.1) (allR (visits r0 r1 r2 (l.drop i) s) s w out) := by
  induction d with
  | zero =>
    intro i s w out hi h ho
    refine Ev.end_ (fun k => ?_)
    rw [spec_l4All.l0, if_neg (by omega), List.drop_eq_nil_of_le (by omega)]
    simp [visits, allR, fin, wst]
  | succ d ih =>
    intro i s w out hi h ho
    have hlt : i < l.length := by omega
    rw [List.drop_eq_getElem_cons hlt]
    cases e : stp r0 r1 r2 l[i] s with
    | none =>
      obtain ⟨a, b, c, d', f, g, e0⟩ := l4Do_no r0 r1 r2 l[i] i s w out hr h (hw _ (List.getElem_mem hlt)) e 0
      have hm : ∀ k, 1 ≤ k → spec_l4Do.f k r0 r1 r2 0 out s.2.2.1 s.2.2.2 w s.1 s.2.1 l[i] = some (a, b, c, d', f, g, false) := by
        intro k hk
        induction k with
        | zero => omega
        | succ k ihk =>
          rcases Nat.eq_zero_or_pos k with h0 | h0
          · subst h0; exact e0
          · exact spec_l4Do.mono _ _ _ _ _ _ _ _ _ _ _ k _ (ihk h0)
      refine ⟨2, fun k hk => ?_⟩
      obtain ⟨k, rfl⟩ : ∃ j, k = j + 1 := ⟨k - 1, by omega⟩
      dsimp only
      rw [spec_l4All.l0, if_pos (by omega), if_pos (by omega), rdI hlt, hm k (by omega), Option.bind_some, if_neg (show ¬ (false = true) by decide)]
      simp [visits, e, allR]
    | some s' =>
      have e0 : ∀ k, spec_l4Do.f (k + 1) r0 r1 r2 0 out s.2.2.1 s.2.2.2 w s.1 s.2.1 l[i] = some (out, s'.2.2.1, s'.2.2.2, mx w (s'.2.1 - s'.1), s'.1, s'.2.1, true) := l4Do_ok r0 r1 r2 l[i] i s s' w out hr h e
      obtain ⟨K, hK⟩ := ih (i + 1) s' (mx w (s'.2.1 - s'.1)) (out ++ [s'.2.1]) (by omega) (InA.step h (by omega) e) (by simp [ho])
      refine ⟨K + 2, fun k hk => ?_⟩
      obtain ⟨k, rfl⟩ : ∃ j, k = j + 1 + 1 := ⟨k - 2, by omega⟩
      have e1 := hK (k + 1) (by omega)
      dsimp only at e1 ⊢
      rw [spec_l4All.l0, if_pos (by omega), if_pos (by omega), rdI hlt, e0 k, Option.bind_some, if_pos rfl, own_eq out (by omega), Option.bind_some, Option.bind_some, if_pos (by simp only [List.length_cons, List.length_nil]; omega), wrap_succ i (by omega)]
      refine e1.trans ?_
      simp only [visits, e, Option.bind_some]
      cases visits r0 r1 r2 (l.drop (i + 1)) s' with
      | none => rfl
      | some vs => simp [allR, fin, wst]
def allC (r0 r1 r2 : Int) (l : List Int) : Option (List (Int × Int × Int × Int)) := if ruleOk r0 r1 r2 = true then (if l.length ≤ 40 then visits r0 r1 r2 l (0, 0, 0, 0) else none) else none
theorem InA0 : InA 0 (0, 0, 0, 0) := ⟨by omega, ⟨by decide, by decide⟩, ⟨by decide, by decide⟩, ⟨by decide, by decide⟩, ⟨by decide, by decide⟩⟩
theorem spec_all (r0 r1 r2 : Int) (l : List Int) (hw : ∀ n ∈ l, -9223372036854775808 ≤ n ∧ n ≤ 9223372036854775807) : Ev (fun k => spec_l4All.f k r0 r1 r2 0 l) (allR (allC r0 r1 r2 l) (0, 0, 0, 0) 0 []) := by
  have hj : ∀ k b, b = true → spec_l4All.j0 (k + 1) 0 l b r0 r1 r2 [] 0 0 0 0 0 = some ([], 0, 0, 0, 0, 0, false) := by intro k b hb; rw [spec_l4All.j0, if_pos hb]
  unfold allC
  by_cases h1 : ruleOk r0 r1 r2 = true
  · by_cases h2 : l.length ≤ 40
    · obtain ⟨K, hK⟩ := all_l0 r0 r1 r2 h1 l h2 hw l.length 0 (0, 0, 0, 0) 0 [] (by omega) InA0 rfl
      refine ⟨K + 1, fun k hk => ?_⟩
      obtain ⟨k, rfl⟩ : ∃ j, k = j + 1 := ⟨k - 1, by omega⟩
      have e1 := hK k (by omega)
      dsimp only at e1 ⊢
      simp only [spec_l4All.f, l4Rule_eq, Option.bind_some]
      rw [if_pos h1, if_pos h1, if_pos h2, decide_eq_false (show ¬ (l.length : Int) > 40 by omega), spec_l4All.j0, if_neg (by decide)]
      rw [List.drop_zero] at e1
      exact e1
    · refine ⟨1, fun k hk => ?_⟩
      obtain ⟨k, rfl⟩ : ∃ j, k = j + 1 := ⟨k - 1, by omega⟩
      dsimp only
      simp only [spec_l4All.f, l4Rule_eq, Option.bind_some]
      rw [if_pos h1, if_pos h1, if_neg h2, hj k _ (decide_eq_true (show (l.length : Int) > 40 by omega))]
      rfl
  · refine ⟨1, fun k hk => ?_⟩
    obtain ⟨k, rfl⟩ : ∃ j, k = j + 1 := ⟨k - 1, by omega⟩
    dsimp only
    simp only [spec_l4All.f, l4Rule_eq, Option.bind_some]
    rw [if_neg h1, if_neg h1, hj k _ rfl]
    rfl
theorem impl_all {β : Type} (st : β → Int → Int → Int → Int → β) (r0 r1 r2 : Int) (l : List Int) (b : β) :
    (∀ vs, allC r0 r1 r2 l = some vs → impl_appends.f st r0 r1 r2 l b = some (true, (fin vs (0, 0, 0, 0)).1, (fin vs (0, 0, 0, 0)).2.1, (fin vs (0, 0, 0, 0)).2.2.1, (fin vs (0, 0, 0, 0)).2.2.2, vs.foldl (fun b v => st b v.1 v.2.1 v.2.2.1 v.2.2.2) b)) ∧
    (allC r0 r1 r2 l = none → ∃ b', impl_appends.f st r0 r1 r2 l b = some (false, 0, 0, 0, 0, b')) := by
  unfold allC impl_appends.f
  rw [isRule_eq, Option.bind_some]
  by_cases h1 : ruleOk r0 r1 r2 = true
  · rw [if_pos h1, if_pos h1]
    by_cases h2 : l.length ≤ 40
    · rw [if_pos h2, if_pos h2]
      exact apps_ev st r0 r1 r2 h1 l 0 (0, 0, 0, 0) b (by omega) InA0
    · rw [if_neg h2, if_neg h2]
      exact ⟨fun vs h => (by cases h), fun _ => ⟨_, rfl⟩⟩
  · rw [if_neg h1, if_neg h1]
    exact ⟨fun vs h => (by cases h), fun _ => ⟨_, rfl⟩⟩
end Go.Proofs.Ythocimpklhfahaa.P
