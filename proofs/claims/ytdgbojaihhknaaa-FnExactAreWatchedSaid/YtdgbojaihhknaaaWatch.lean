/- Plain lemmas: AreWatched in both programs. No program, no memory. -/
import Derived.Test.YtdgbojaihhknaaaWins
import Derived.Test.YtdgbojaihhknaaaAreOn
import Derived.Test.YtdgbojaihhknaaaWin
import Derived.Test.YtdgbojaihhknaaaPx19
import Derived.Test.YtdgbojaihhknaaaPx20
namespace Go.Proofs.Ytdgbojaihhknaaa.P
open Go.RowKit Go.Proofs.YtdgbojaihhknaaaW.PrintWords Go.Proofs.YtdgbojaihhknaaaW.PrintLast Go.Proofs.YtdgbojaihhknaaaW.PrintMore
set_option linter.unusedVariables false
set_option linter.unusedSimpArgs false
theorem l3Watched_l0 (m : List (List Int)) (hm : Fit m) (l : List S32) (hw : ∀ x ∈ l, wf4 x) (hlen : l.length ≤ 1048576) (d : Nat) : ∀ i : Nat, i + d = min l.length 13 →
    Ev (fun k => spec_l3Watched.l0 k l i m) (((l.drop i).take d).all (fun x => memOk m && winOn m x.f0 x.f1 x.f2 x.f3) && (memOk m && decide (l.length ≤ 12))) := by
  induction d with
  | zero =>
    intro i hi
    obtain ⟨K, hK⟩ := l2Mem m hm.1
    refine ⟨K + 2, fun k hk => ?_⟩
    obtain ⟨k, rfl⟩ : ∃ j, k = j + 1 + 1 := ⟨k - 2, by omega⟩
    have e1 := hK k (by omega)
    dsimp only at e1 ⊢
    have hj : spec_l3Watched.j1 (k + 1) l i false m = some (memOk m && decide (l.length ≤ 12)) := by
      unfold spec_l3Watched.j1
      rw [if_neg (by decide), e1, Option.bind_some]
      cases memOk m
      · rfl
      · rw [if_pos rfl]
        simp only [Bool.true_and, Option.some.injEq]
        rw [Bool.eq_iff_iff]
        simp only [decide_eq_true_eq]
        omega
    unfold spec_l3Watched.l0
    rw [List.take_zero, List.all_nil, Bool.true_and]
    by_cases h : (i : Int) < l.length
    · rw [if_pos h, decide_eq_false (show ¬ (i : Int) ≤ 12 by omega)]
      exact hj
    · rw [if_neg h]
      exact hj
  | succ d ih =>
    intro i hi
    have hlt : i < l.length := by omega
    obtain ⟨K, hK⟩ := l2Win m hm l[i].f0 l[i].f1 l[i].f2 l[i].f3 (hw _ (List.getElem_mem hlt))
    obtain ⟨K2, h2⟩ := ih (i + 1) (by omega)
    refine ⟨K + K2 + 2, fun k hk => ?_⟩
    obtain ⟨k, rfl⟩ : ∃ j, k = j + 1 + 1 := ⟨k - 2, by omega⟩
    have e1 := hK k (by omega)
    have e2 := h2 k (by omega)
    dsimp only at e1 e2 ⊢
    unfold spec_l3Watched.l0
    rw [if_pos (by omega), decide_eq_true (show (i : Int) ≤ 12 by omega)]
    unfold spec_l3Watched.j1
    rw [if_pos rfl, if_pos (by omega), if_pos (by omega), rdB hlt, e1, Option.bind_some, wrap_succ i (by omega), e2, List.drop_eq_getElem_cons hlt, List.take_succ_cons, List.all_cons]
    cases memOk m && winOn m l[i].f0 l[i].f1 l[i].f2 l[i].f3 <;> rfl
def watched (m : List (List Int)) (l : List S32) : Bool := memOk m && (onAll m l && decide (l.length ≤ 12))
theorem l3Watched_ev (m : List (List Int)) (hm : Fit m) (l : List S32) (hw : ∀ x ∈ l, wf4 x) (hlen : l.length ≤ 1048576) : Ev (fun k => spec_l3Watched.f k m l) (watched m l) := by
  obtain ⟨K, hK⟩ := l3Watched_l0 m hm l hw hlen (min l.length 13) 0 (by omega)
  refine ⟨K, fun k hk => ?_⟩
  have e1 := hK k hk
  refine e1.trans ?_
  unfold watched onAll
  rw [List.drop_zero, Option.some.injEq]
  by_cases h : l.length ≤ 12
  · rw [List.take_of_length_le (by omega), decide_eq_true h]
    cases memOk m
    · simp
    · simp
  · rw [decide_eq_false h]
    simp
theorem areWatched_ev (m : List (List Int)) (hm : Fit m) (l : List S32) : Ev (fun k => impl_areWatched.f k m l) (watched m l) := by
  obtain ⟨K, hK⟩ := areOn_ev m hm l
  refine ⟨K, fun k hk => ?_⟩
  have e1 := hK k hk
  dsimp only at e1 ⊢
  unfold impl_areWatched.f
  rw [e1, Option.bind_some]
  unfold watched onAll
  have e : decide ((l.length : Int) ≤ 12) = decide (l.length ≤ 12) := by
    rw [Bool.eq_iff_iff]; simp only [decide_eq_true_eq]; omega
  rw [e]
  cases memOk m <;> cases (l.all fun x => winOn m x.f0 x.f1 x.f2 x.f3) <;> rfl
def areWatchedR (m : List (List Int)) (l : List S32) : Bool × Bool := if memOk m = true then (watched m l, true) else (false, false)
theorem areWatched_spec (m : List (List Int)) (hm : Fit m) (l : List S32) (hw : ∀ x ∈ l, wf4 x) (hlen : l.length ≤ 1048576) : Ev (fun k => spec_AreWatched.f k m l) (areWatchedR m l) := by
  obtain ⟨K, hK⟩ := l2Mem m hm.1
  obtain ⟨K2, h2⟩ := l3Watched_ev m hm l hw hlen
  refine ⟨K + K2, fun k hk => ?_⟩
  have e1 := hK k (by omega)
  have e2 := h2 k (by omega)
  dsimp only at e1 e2 ⊢
  unfold spec_AreWatched.f areWatchedR
  rw [e1, Option.bind_some, e2, Option.bind_some]
  cases memOk m <;> rfl
theorem areWatched_impl (m : List (List Int)) (hm : Fit m) (l : List S32) : Ev (fun k => impl_AreWatched.f k m l) (areWatchedR m l) := by
  obtain ⟨K, hK⟩ := isMem m hm.1
  obtain ⟨K2, h2⟩ := areWatched_ev m hm l
  refine ⟨K + K2, fun k hk => ?_⟩
  have e1 := hK k (by omega)
  have e2 := h2 k (by omega)
  dsimp only at e1 e2 ⊢
  unfold impl_AreWatched.f areWatchedR
  rw [e1, Option.bind_some, e2, Option.bind_some]
  cases memOk m <;> rfl
end Go.Proofs.Ytdgbojaihhknaaa.P
