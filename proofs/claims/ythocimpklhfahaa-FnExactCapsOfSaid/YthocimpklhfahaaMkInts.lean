/- Plain lemmas: rows of numbers that a law marks, and finds marked. No program, no memory. -/
import Derived.Test.YthocimpklhfahaaPx10
import Derived.Test.YthocimpklhfahaaBase
namespace Go.Proofs.Ythocimpklhfahaa.P
open Go.RowKit Go.Proofs.YthocimpklhfahaaW.PrintWords Go.Proofs.YthocimpklhfahaaW.PrintLast Go.Proofs.YthocimpklhfahaaW.PrintMore
set_option linter.unusedVariables false
set_option linter.unusedSimpArgs false
def ramp (a : Int) (n : Nat) : List Int := (List.range n).map fun (i : Nat) => a + (i : Int)
theorem ramp_len (a : Int) (n : Nat) : (ramp a n).length = n := by simp [ramp]
theorem ramp_succ (a : Int) (n : Nat) : ramp a (n + 1) = ramp a n ++ [a + n] := by simp [ramp, List.range_succ]
theorem markInts_l0 (l : List Int) (a : Int) (hl : l.length ≤ 1048576) (h0 : 0 ≤ a) (h1 : a ≤ 1099511627776) (d : Nat) : ∀ i : Nat, i + d = l.length →
    Ev (fun k => laws_markIntS.l0 k (ramp a i ++ l.drop i) (a + i) (i : Int)) (a + l.length, ramp a l.length) := by
  induction d with
  | zero =>
    intro i hi
    obtain rfl : i = l.length := by omega
    refine Ev.end_ (fun k => ?_)
    simp only [laws_markIntS.l0]
    rw [if_neg (by simp [ramp_len])]
    simp
  | succ d ih =>
    intro i hi
    have hlt : i < l.length := by omega
    have e : (ramp a i ++ l.drop i).set i (a + i) = ramp a (i + 1) ++ l.drop (i + 1) := by
      rw [List.drop_eq_getElem_cons hlt, List.set_append_right _ _ (by rw [ramp_len]; exact Nat.le_refl _), ramp_succ, ramp_len, Nat.sub_self, List.set_cons_zero, List.append_assoc]
      rfl
    obtain ⟨K, hK⟩ := ih (i + 1) (by omega)
    refine ⟨K + 1, fun n hn => ?_⟩
    obtain ⟨k, rfl⟩ : ∃ k, n = k + 1 := ⟨n - 1, by omega⟩
    have e2 := hK k (by omega)
    dsimp only at e2 ⊢
    simp only [laws_markIntS.l0]
    rw [if_pos (by simp [ramp_len]; omega), if_pos (by omega), Int.toNat_natCast, e, wrap_in (x := a + i + 1) (by omega) (by omega), wrap_succ i (by omega)]
    rw [show a + (i : Int) + 1 = a + ((i + 1 : Nat) : Int) by omega]
    exact e2
theorem markInts (l : List Int) (a : Int) (hl : l.length ≤ 1048576) (h0 : 0 ≤ a) (h1 : a ≤ 1099511627776) : Ev (fun k => laws_markIntS.f k l a) (a + l.length, ramp a l.length) := by
  obtain ⟨K, hK⟩ := markInts_l0 l a hl h0 h1 l.length 0 (by omega)
  refine ⟨K, fun k hk => ?_⟩
  have := hK k hk
  simpa [laws_markIntS.f, ramp] using this
theorem heldInts_l0 (a : Int) (m : Nat) (hm : m ≤ 1048576) (h0 : 0 ≤ a) (h1 : a ≤ 1099511627776) (d : Nat) : ∀ i : Nat, i + d = m →
    Ev (fun k => laws_heldIntS.l0 k (ramp a m) (a + i) (i : Int)) (a + m) := by
  induction d with
  | zero =>
    intro i hi
    obtain rfl : i = m := by omega
    refine Ev.end_ (fun k => ?_)
    simp only [laws_heldIntS.l0]
    rw [if_neg (by simp [ramp_len])]
  | succ d ih =>
    intro i hi
    have hlt : i < m := by omega
    have e : rd (ramp a m) (i : Int) = a + i := by
      unfold rd
      rw [Int.toNat_natCast, List.getD_eq_getElem?_getD, List.getElem?_eq_getElem (by rw [ramp_len]; exact hlt)]
      simp [ramp]
    obtain ⟨K, hK⟩ := ih (i + 1) (by omega)
    refine ⟨K + 1, fun n hn => ?_⟩
    obtain ⟨k, rfl⟩ : ∃ k, n = k + 1 := ⟨n - 1, by omega⟩
    have e2 := hK k (by omega)
    dsimp only at e2 ⊢
    simp only [laws_heldIntS.l0]
    rw [if_pos (by rw [ramp_len]; omega), if_pos (by omega), if_pos e, wrap_in (x := a + i + 1) (by omega) (by omega), wrap_succ i (by omega)]
    rw [show a + (i : Int) + 1 = a + ((i + 1 : Nat) : Int) by omega]
    exact e2
theorem heldInts (a : Int) (m : Nat) (hm : m ≤ 1048576) (h0 : 0 ≤ a) (h1 : a ≤ 1099511627776) : Ev (fun k => laws_heldIntS.f k (ramp a m) a) (a + m) := by
  obtain ⟨K, hK⟩ := heldInts_l0 a m hm h0 h1 m 0 (by omega)
  refine ⟨K, fun k hk => ?_⟩
  have := hK k hk
  simpa [laws_heldIntS.f] using this
end Go.Proofs.Ythocimpklhfahaa.P
