/- Plain lemmas: both programs' tests of a window are one. No program, no memory. -/
import Derived.Test.YtaoffejflichjaaMem
import Derived.Test.YtaoffejflichjaaPx2
import Derived.Test.YtaoffejflichjaaPx3
import Derived.Test.YtaoffejflichjaaPx4
namespace Go.Proofs.Ytaoffejflichjaa.P
open Go.RowKit Go.Proofs.YtaoffejflichjaaW.PrintWords Go.Proofs.YtaoffejflichjaaW.PrintLast Go.Proofs.YtaoffejflichjaaW.PrintMore
set_option linter.unusedVariables false
set_option linter.unusedSimpArgs false
theorem eqWin (a b c d : Int) : laws_eqWindow.f a b c d a b c d = some true := by
  unfold laws_eqWindow.f; simp
/-- A window lies on a memory (which may be invalid). -/
def winOn (m : List (List Int)) (a s l c : Int) : Bool := inB a 0 ((m.length : Int) - 1) && (inB c 0 64 && (inB l 0 c && inB s 0 (((m.getD a.toNat []).length : Int) - c)))
theorem hasArr (m : List (List Int)) (hm : m.length ≤ 9223372036854775807) (a : Int) : impl_Memory_hasArray.f m a = some (inB a 0 ((m.length : Int) - 1)) := by
  unfold impl_Memory_hasArray.f
  rw [wrap_in (x := (m.length : Int) - 1) (by omega) (by omega), within_eq]; rfl
theorem hasWin (m : List (List Int)) (hm : Fit m) (a s l c : Int) : impl_Memory_hasWindow.f m a s l c = some (winOn m a s l c) := by
  unfold impl_Memory_hasWindow.f
  have hmax := hm.1
  rw [hasArr m hm.1]
  simp only [Option.bind_some, within_eq]
  unfold winOn
  by_cases h1 : 0 ≤ a ∧ a ≤ (m.length : Int) - 1
  · have e1 : inB a 0 ((m.length : Int) - 1) = true := decide_eq_true h1
    have hlt : a.toNat < m.length := by omega
    have hfit := hm.2 _ (getD_mem m [] a.toNat hlt)
    rw [e1, if_pos rfl]
    by_cases h2 : 0 ≤ c ∧ c ≤ 64
    · have e2 : inB c 0 64 = true := decide_eq_true h2
      rw [e2, if_pos rfl]
      by_cases h3 : 0 ≤ l ∧ l ≤ c
      · have e3 : inB l 0 c = true := decide_eq_true h3
        rw [e3, if_pos rfl, if_pos h1.1, if_pos (by omega)]
        simp only [rd_L1]
        rw [wrap_in (x := ((m.getD a.toNat []).length : Int) - c) (by omega) (by omega)]
        simp
      · have e3 : inB l 0 c = false := decide_eq_false h3
        rw [e3]; simp
    · have e2 : inB c 0 64 = false := decide_eq_false h2
      rw [e2]; simp
  · have e1 : inB a 0 ((m.length : Int) - 1) = false := decide_eq_false h1
    rw [e1]; simp
theorem winOn_iff {m : List (List Int)} {a s l c : Int} : winOn m a s l c = true ↔ (0 ≤ a ∧ a ≤ (m.length : Int) - 1) ∧ (0 ≤ c ∧ c ≤ 64) ∧ (0 ≤ l ∧ l ≤ c) ∧ 0 ≤ s ∧ s ≤ ((m.getD a.toNat []).length : Int) - c := by
  unfold winOn inB
  simp only [Bool.and_eq_true, decide_eq_true_eq]
/-- The reference's test: a valid memory, and the window on it. -/
theorem l2Win (m : List (List Int)) (hm : Fit m) (a s l c : Int) (hs : -9223372036854775808 ≤ s ∧ s ≤ 9223372036854775807) : Ev (fun k => spec_l2Window.f k m a s l c) (memOk m && winOn m a s l c) := by
  have hmax := hm.1
  obtain ⟨K, hK⟩ := l2Mem m hm.1
  dsimp only at hK
  refine ⟨K + 1, fun n hn => ?_⟩
  obtain ⟨k, rfl⟩ : ∃ k, n = k + 1 := ⟨n - 1, by omega⟩
  dsimp only
  simp only [spec_l2Window.f, hK (k + 1) (by omega), Option.bind_some, l1In_eq]
  cases hok : memOk m with
  | false => simp [spec_l2Window.j0]
  | true =>
    rw [wrap_in (x := (m.length : Int) - 1) (by omega) (by omega)]
    simp only [if_true, Bool.true_and]
    by_cases h1 : 0 ≤ a ∧ a ≤ (m.length : Int) - 1
    · have e1 : inB a 0 ((m.length : Int) - 1) = true := decide_eq_true h1
      have hlt : a.toNat < m.length := by omega
      have hfit := memOk_each hok _ (getD_mem m [] a.toNat hlt)
      simp only [spec_l2Window.j0, e1, rd_L1, l1In_eq, Option.bind_some]
      rw [if_neg (by simp), if_pos h1.1, if_pos (by omega)]
      by_cases h2 : 0 ≤ s ∧ s ≤ ((m.getD a.toNat []).length : Int)
      · have e2 : inB s 0 ((m.getD a.toNat []).length : Int) = true := decide_eq_true h2
        simp only [e2, if_true, wrap_in (x := ((m.getD a.toNat []).length : Int) - s) (by omega) (by omega)]
        by_cases h3 : 0 ≤ c ∧ c ≤ ((m.getD a.toNat []).length : Int) - s
        · have e3 : inB c 0 (((m.getD a.toNat []).length : Int) - s) = true := decide_eq_true h3
          simp only [e3, if_true, Option.some.injEq]
          rw [Bool.eq_iff_iff, winOn_iff]
          unfold inB
          simp only [decide_eq_true_eq]
          omega
        · have e3 : inB c 0 (((m.getD a.toNat []).length : Int) - s) = false := decide_eq_false h3
          have e4 : winOn m a s l c = false := by
            rw [Bool.eq_false_iff]
            intro h
            rw [winOn_iff] at h
            omega
          simp only [e3, e4, Bool.false_eq_true, if_false]
      · have e2 : inB s 0 ((m.getD a.toNat []).length : Int) = false := decide_eq_false h2
        have e3 : winOn m a s l c = false := by
          rw [Bool.eq_false_iff]
          intro h
          rw [winOn_iff] at h
          omega
        simp only [e2, e3, Bool.false_eq_true, if_false]
    · have e1 : inB a 0 ((m.length : Int) - 1) = false := decide_eq_false h1
      simp only [spec_l2Window.j0, e1]
      unfold winOn
      rw [e1]; simp
end Go.Proofs.Ytaoffejflichjaa.P
