/- Plain lemmas: single appends in both programs. No program, no memory. -/
import Derived.Test.YtgoglifmohpfdaaL4
import Derived.Test.YtgoglifmohpfdaaGrow
import Derived.Test.YtgoglifmohpfdaaRule
import Derived.Test.YtgoglifmohpfdaaPx12
import Derived.Test.YtgoglifmohpfdaaPx13
import Derived.Test.YtgoglifmohpfdaaPx14
namespace Go.Proofs.Ytgoglifmohpfdaa.P
open Go.RowKit Go.Proofs.YtgoglifmohpfdaaW.PrintWords Go.Proofs.YtgoglifmohpfdaaW.PrintLast Go.Proofs.YtgoglifmohpfdaaW.PrintMore
set_option linter.unusedVariables false
set_option linter.unusedSimpArgs false
/-- A step: (length, cap, moves, cost) behind one single append. -/
def one (r0 r1 r2 : Int) (s : Int × Int × Int × Int) : Int × Int × Int × Int :=
  if s.2.1 < s.1 + 1 then (s.1 + 1, nxt r0 r1 r2 s.1 s.2.1 1, s.2.2.1 + 1, s.2.2.2 + 1 + s.1) else (s.1 + 1, s.2.1, s.2.2.1, s.2.2.2 + 1)
def ones (r0 r1 r2 : Int) : Nat → Int × Int × Int × Int → Int × Int × Int × Int
  | 0, s => s
  | d + 1, s => ones r0 r1 r2 d (one r0 r1 r2 s)
/-- What holds behind i single appends. -/
def In (i : Nat) (s : Int × Int × Int × Int) : Prop := s.1 = i ∧ i ≤ 2000 ∧ (0 ≤ s.2.1 ∧ s.2.1 ≤ 16064) ∧ (0 ≤ s.2.2.1 ∧ s.2.2.1 ≤ i) ∧ (0 ≤ s.2.2.2 ∧ s.2.2.2 ≤ 2001 * i)
theorem nxt_bd (r0 r1 r2 l c : Int) (hr : ruleOk r0 r1 r2 = true) (hl : 0 ≤ l ∧ l < 2000) (hc : 0 ≤ c ∧ c ≤ 16064) (h : c < l + 1) : c < nxt r0 r1 r2 l c 1 ∧ nxt r0 r1 r2 l c 1 ≤ 16064 ∧ nxt r0 r1 r2 l c 1 = mx (mx (c * r0 / r1 + r2) (l + 1)) (c + 1) := by
  have hr' := ruleOk_iff.mp hr
  have e : nxt r0 r1 r2 l c 1 = mx (mx (c * r0 / r1 + r2) (l + 1)) (c + 1) := by unfold nxt; rw [if_pos h]
  have h1 : 0 ≤ c * r0 := Int.mul_nonneg hc.1 (by omega)
  have h2 : c * r0 ≤ 2000 * 8 := Int.mul_le_mul (by omega) (by omega) (by omega) (by omega)
  have h4 : c * r0 / r1 ≤ c * r0 := Int.ediv_le_self r1 h1
  have h5 := (mx_ge (mx (c * r0 / r1 + r2) (l + 1)) (c + 1)).2
  have h6 : mx (mx (c * r0 / r1 + r2) (l + 1)) (c + 1) ≤ 16064 := by rw [mx_le, mx_le]; omega
  rw [e]
  exact ⟨by omega, h6, rfl⟩
theorem In.step {r0 r1 r2 : Int} {i : Nat} {s : Int × Int × Int × Int} (hr : ruleOk r0 r1 r2 = true) (h : In i s) (hi : i < 2000) : In (i + 1) (one r0 r1 r2 s) := by
  obtain ⟨h1, h2, h3, h4, h5⟩ := h
  unfold one
  by_cases hc : s.2.1 < s.1 + 1
  · rw [if_pos hc]
    obtain ⟨b1, b2, _⟩ := nxt_bd r0 r1 r2 s.1 s.2.1 hr (by omega) h3 hc
    refine ⟨?_, by omega, ?_, ?_, ?_⟩ <;> dsimp only <;> omega
  · rw [if_neg hc]
    refine ⟨?_, by omega, ?_, ?_, ?_⟩ <;> dsimp only <;> omega
theorem l4Do_one (r0 r1 r2 : Int) (i : Nat) (s : Int × Int × Int × Int) (w : Int) (hr : ruleOk r0 r1 r2 = true) (h : In i s) (hi : i < 2000) (k : Nat) :
    ∃ w', spec_l4Do.f (k + 1) r0 r1 r2 0 [] s.2.2.1 s.2.2.2 w s.1 s.2.1 1 = some ([], (one r0 r1 r2 s).2.2.1, (one r0 r1 r2 s).2.2.2, w', (one r0 r1 r2 s).1, (one r0 r1 r2 s).2.1, true) := by
  have hs := In.step hr h hi
  obtain ⟨h1, h2, h3, h4, h5⟩ := h
  obtain ⟨q1, q2, q3, q4, q5⟩ := hs
  have hj : spec_l4Do.f (k + 1) r0 r1 r2 0 [] s.2.2.1 s.2.2.2 w s.1 s.2.1 1 = spec_l4Do.j0 (k + 1) 1 false r0 r1 r2 [] s.2.2.1 s.2.2.2 w s.1 s.2.1 := by
    unfold spec_l4Do.f
    rw [if_pos (by omega), size_eq, Option.bind_some, if_pos (by decide), wrap_in (x := s.1 + 1) (by omega) (by omega), size_eq, Option.bind_some, show inB (s.1 + 1) 0 1000000 = true from (inB_iff _ _ _).mpr (by omega)]
    rfl
  rw [hj]
  rw [spec_l4Do.j0, if_neg (by decide), nxt_eq r0 r1 r2 s.1 s.2.1 1 hr (by omega) (by omega) (by omega), Option.bind_some]
  unfold one at q1 q3 q4 q5 ⊢
  by_cases hc : s.2.1 < s.1 + 1
  · obtain ⟨b1, b2, _⟩ := nxt_bd r0 r1 r2 s.1 s.2.1 hr (by omega) h3 hc
    rw [if_pos (by omega), most_mx, Option.bind_some, size_eq, Option.bind_some, if_pos hc, show inB (nxt r0 r1 r2 s.1 s.2.1 1) 0 1000000 = true from (inB_iff _ _ _).mpr (by omega)]
    rw [wrap_in (x := s.2.2.1 + 1) (by omega) (by omega), wrap_in (x := s.2.2.2 + s.1) (by omega) (by omega), wrap_in (x := s.2.2.2 + s.1 + 1) (by omega) (by omega), wrap_in (x := s.1 + 1) (by omega) (by omega), show s.2.2.2 + s.1 + 1 = s.2.2.2 + 1 + s.1 by omega]
    exact ⟨_, rfl⟩
  · have e : nxt r0 r1 r2 s.1 s.2.1 1 = s.2.1 := by unfold nxt; rw [if_neg hc]
    rw [e, if_neg (by omega), most_mx, Option.bind_some, size_eq, Option.bind_some, if_neg hc, show inB s.2.1 0 1000000 = true from (inB_iff _ _ _).mpr (by omega)]
    rw [wrap_in (x := s.2.2.2 + 1) (by omega) (by omega), wrap_in (x := s.1 + 1) (by omega) (by omega)]
    exact ⟨_, rfl⟩
theorem grow_one (r0 r1 r2 : Int) (i : Nat) (s : Int × Int × Int × Int) (hr : ruleOk r0 r1 r2 = true) (h : In i s) (hi : i < 2000) :
    ∃ b, impl_store_grow.f s.1 s.2.1 s.2.2.1 s.2.2.2 r0 r1 r2 1 = some (b, one r0 r1 r2 s) := by
  have hr' := ruleOk_iff.mp hr
  obtain ⟨h1, h2, h3, h4, h5⟩ := h
  unfold impl_store_grow.f one
  rw [if_pos (by omega), if_pos (by omega)]
  by_cases hc : s.2.1 < s.1 + 1
  · obtain ⟨b1, b2, e⟩ := nxt_bd r0 r1 r2 s.1 s.2.1 hr (by omega) h3 hc
    rw [if_pos hc, if_pos hc, e]
    exact ⟨_, rfl⟩
  · rw [if_neg hc, if_neg hc]
    exact ⟨_, rfl⟩
theorem spec_l0 (r0 r1 r2 : Int) (hr : ruleOk r0 r1 r2 = true) (N : Nat) (hN : N ≤ 2000) (d : Nat) : ∀ (i : Nat) (s : Int × Int × Int × Int) (w : Int), i + d = N → In i s →
    ∃ w', Ev (fun k => spec_l4Singles.l0 k N i r0 r1 r2 [] s.2.2.1 s.2.2.2 w s.1 s.2.1) ([], (ones r0 r1 r2 d s).2.2.1, (ones r0 r1 r2 d s).2.2.2, w', (ones r0 r1 r2 d s).1, (ones r0 r1 r2 d s).2.1, true) := by
  induction d with
  | zero =>
    intro i s w hi h
    refine ⟨w, Ev.end_ (fun k => ?_)⟩
    rw [spec_l4Singles.l0, if_neg (by omega)]
    rfl
  | succ d ih =>
    intro i s w hi h
    have hw0 : ∀ k, ∃ w', spec_l4Do.f (k + 1) r0 r1 r2 0 [] s.2.2.1 s.2.2.2 w s.1 s.2.1 1 = some ([], (one r0 r1 r2 s).2.2.1, (one r0 r1 r2 s).2.2.2, w', (one r0 r1 r2 s).1, (one r0 r1 r2 s).2.1, true) := l4Do_one r0 r1 r2 i s w hr h (by omega)
    obtain ⟨w0, e0⟩ := hw0 0
    have hm : ∀ k, 1 ≤ k → spec_l4Do.f k r0 r1 r2 0 [] s.2.2.1 s.2.2.2 w s.1 s.2.1 1 = some ([], (one r0 r1 r2 s).2.2.1, (one r0 r1 r2 s).2.2.2, w0, (one r0 r1 r2 s).1, (one r0 r1 r2 s).2.1, true) := by
      intro k hk
      induction k with
      | zero => omega
      | succ k ihk =>
        rcases Nat.eq_zero_or_pos k with h0 | h0
        · subst h0; exact e0
        · exact spec_l4Do.mono _ _ _ _ _ _ _ _ _ _ _ k _ (ihk h0)
    obtain ⟨w', K, hK⟩ := ih (i + 1) (one r0 r1 r2 s) w0 (by omega) (In.step hr h (by omega))
    refine ⟨w', K + 2, fun k hk => ?_⟩
    obtain ⟨k, rfl⟩ : ∃ j, k = j + 1 := ⟨k - 1, by omega⟩
    have e1 := hK k (by omega)
    dsimp only at e1 ⊢
    rw [spec_l4Singles.l0, if_pos (by omega), hm k (by omega), Option.bind_some, if_pos rfl, wrap_succ i (by omega)]
    exact e1
theorem impl_l0 (r0 r1 r2 : Int) (hr : ruleOk r0 r1 r2 = true) (N : Nat) (hN : N ≤ 2000) (d : Nat) : ∀ (i : Nat) (s : Int × Int × Int × Int), i + d = N → In i s →
    Ev (fun k => impl_singles.l0 k N i r0 r1 r2 s.1 s.2.1 s.2.2.1 s.2.2.2) ((ones r0 r1 r2 d s).1, (ones r0 r1 r2 d s).2.1, (ones r0 r1 r2 d s).2.2.1, (ones r0 r1 r2 d s).2.2.2, true) := by
  induction d with
  | zero =>
    intro i s hi h
    refine Ev.end_ (fun k => ?_)
    rw [impl_singles.l0, if_neg (by omega)]
    rfl
  | succ d ih =>
    intro i s hi h
    obtain ⟨b, e0⟩ := grow_one r0 r1 r2 i s hr h (by omega)
    refine Ev.step (fun k => ?_) (ih (i + 1) (one r0 r1 r2 s) (by omega) (In.step hr h (by omega)))
    rw [impl_singles.l0, if_pos (by omega), e0, Option.bind_some, wrap_succ i (by omega)]
/-- The answer of both: moves, cost, and whether rule and number are in range. -/
def singles (r0 r1 r2 n : Int) : Int × Int × Bool :=
  if (ruleOk r0 r1 r2 && inB n 0 2000) = true then ((ones r0 r1 r2 n.toNat (0, 0, 0, 0)).2.2.1, (ones r0 r1 r2 n.toNat (0, 0, 0, 0)).2.2.2, true) else (0, 0, false)
theorem In0 : In 0 (0, 0, 0, 0) := ⟨rfl, by omega, ⟨by decide, by decide⟩, ⟨by decide, by decide⟩, ⟨by decide, by decide⟩⟩
theorem spec_singles (r0 r1 r2 n : Int) : ∃ w l c, Ev (fun k => spec_l4Singles.f k r0 r1 r2 n) ([], (singles r0 r1 r2 n).1, (singles r0 r1 r2 n).2.1, w, l, c, (singles r0 r1 r2 n).2.2) := by
  have hj : ∀ k b, b = true → spec_l4Singles.j0 (k + 1) n b r0 r1 r2 0 0 0 0 0 = some ([], 0, 0, 0, 0, 0, false) := by intro k b hb; rw [spec_l4Singles.j0, if_pos hb]
  unfold singles
  by_cases h1 : ruleOk r0 r1 r2 = true
  · by_cases h2 : inB n 0 2000 = true
    · have b2 := (inB_iff _ _ _).mp h2
      obtain ⟨w, K, hK⟩ := spec_l0 r0 r1 r2 h1 n.toNat (by omega) n.toNat 0 (0, 0, 0, 0) 0 (by omega) In0
      refine ⟨w, (ones r0 r1 r2 n.toNat (0, 0, 0, 0)).1, (ones r0 r1 r2 n.toNat (0, 0, 0, 0)).2.1, K + 1, fun k hk => ?_⟩
      obtain ⟨k, rfl⟩ : ∃ j, k = j + 1 := ⟨k - 1, by omega⟩
      have e1 := hK k (by omega)
      dsimp only at e1 ⊢
      rw [show ((n.toNat : Nat) : Int) = n by omega] at e1
      simp only [spec_l4Singles.f, l4Rule_eq, l1In_eq, Option.bind_some]
      rw [if_pos h1, h2, h1, if_pos (by rfl)]
      rw [spec_l4Singles.j0, if_neg (by decide)]
      exact e1
    · refine ⟨0, 0, 0, 1, fun k hk => ?_⟩
      obtain ⟨k, rfl⟩ : ∃ j, k = j + 1 := ⟨k - 1, by omega⟩
      dsimp only
      simp only [spec_l4Singles.f, l4Rule_eq, l1In_eq, Option.bind_some]
      rw [if_pos h1, hj k _ (by simp only [Bool.eq_false_iff.mpr h2, Bool.not_false]), if_neg (by simp only [Bool.eq_false_iff.mpr h2, Bool.and_false]; decide)]
  · refine ⟨0, 0, 0, 1, fun k hk => ?_⟩
    obtain ⟨k, rfl⟩ : ∃ j, k = j + 1 := ⟨k - 1, by omega⟩
    dsimp only
    simp only [spec_l4Singles.f, l4Rule_eq, l1In_eq, Option.bind_some]
    rw [if_neg h1, hj k _ rfl, if_neg (by simp only [Bool.eq_false_iff.mpr h1, Bool.false_and]; decide)]
theorem impl_singles_ev (r0 r1 r2 n : Int) : ∃ l c, Ev (fun k => impl_singles.f k r0 r1 r2 n) (l, c, (singles r0 r1 r2 n).1, (singles r0 r1 r2 n).2.1, (singles r0 r1 r2 n).2.2) := by
  have hj : ∀ k b, b = true → impl_singles.j0 (k + 1) n b r0 r1 r2 = some (0, 0, 0, 0, false) := by intro k b hb; rw [impl_singles.j0, if_pos hb]
  unfold singles
  by_cases h1 : ruleOk r0 r1 r2 = true
  · by_cases h2 : inB n 0 2000 = true
    · have b2 := (inB_iff _ _ _).mp h2
      obtain ⟨K, hK⟩ := impl_l0 r0 r1 r2 h1 n.toNat (by omega) n.toNat 0 (0, 0, 0, 0) (by omega) In0
      refine ⟨(ones r0 r1 r2 n.toNat (0, 0, 0, 0)).1, (ones r0 r1 r2 n.toNat (0, 0, 0, 0)).2.1, K + 1, fun k hk => ?_⟩
      obtain ⟨k, rfl⟩ : ∃ j, k = j + 1 := ⟨k - 1, by omega⟩
      have e1 := hK k (by omega)
      dsimp only at e1 ⊢
      rw [show ((n.toNat : Nat) : Int) = n by omega] at e1
      simp only [impl_singles.f, isRule_eq, within_eq, Option.bind_some]
      rw [if_pos h1, h2, h1, if_pos (by rfl)]
      rw [impl_singles.j0, if_neg (by decide)]
      exact e1
    · refine ⟨0, 0, 1, fun k hk => ?_⟩
      obtain ⟨k, rfl⟩ : ∃ j, k = j + 1 := ⟨k - 1, by omega⟩
      dsimp only
      simp only [impl_singles.f, isRule_eq, within_eq, Option.bind_some]
      rw [if_pos h1, hj k _ (by simp only [Bool.eq_false_iff.mpr h2, Bool.not_false]), if_neg (by simp only [Bool.eq_false_iff.mpr h2, Bool.and_false]; decide)]
  · refine ⟨0, 0, 1, fun k hk => ?_⟩
    obtain ⟨k, rfl⟩ : ∃ j, k = j + 1 := ⟨k - 1, by omega⟩
    dsimp only
    simp only [impl_singles.f, isRule_eq, within_eq, Option.bind_some]
    rw [if_neg h1, hj k _ rfl, if_neg (by simp only [Bool.eq_false_iff.mpr h1, Bool.false_and]; decide)]
end Go.Proofs.Ytgoglifmohpfdaa.P
