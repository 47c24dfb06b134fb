/- Plain lemmas: a list of numbers, copied and compared by the laws. No program, no memory. -/
import Derived.Test.YthocimpklhfahaaPx5
import Derived.Test.YthocimpklhfahaaPx7
import Derived.Test.YthocimpklhfahaaBase
namespace Go.Proofs.Ythocimpklhfahaa.P
open Go.RowKit Go.Proofs.YthocimpklhfahaaW.PrintWords Go.Proofs.YthocimpklhfahaaW.PrintLast Go.Proofs.YthocimpklhfahaaW.PrintMore
set_option linter.unusedVariables false
set_option linter.unusedSimpArgs false
theorem rdI {l : List Int} {i : Nat} (h : i < l.length) : rd l (i : Int) = l[i] := by
  unfold rd; rw [Int.toNat_natCast, List.getD_eq_getElem?_getD, List.getElem?_eq_getElem h]; rfl
theorem set_takeI (g x3 : List Int) (i : Nat) (hi : i < g.length) (hl : x3.length = g.length) (ht : x3.take i = g.take i) : (x3.set i g[i]).take (i + 1) = g.take (i + 1) := by
  rw [List.take_succ_eq_append_getElem (by simpa using (by omega : i < x3.length)), List.take_succ_eq_append_getElem hi]
  congr 1
  · rw [List.take_set_of_le (Nat.le_refl _)]; exact ht
  · simp
theorem toInts_l0 (x0 : List Int) (hmax : x0.length ≤ 1048576) (d : Nat) : ∀ (i : Nat) (x3 : List Int), i + d = x0.length → x3.length = x0.length → x3.take i = x0.take i →
    Ev (fun k => laws_toIntS.l0 k x0 x3 (i : Int)) x0 := by
  induction d with
  | zero =>
    intro i x3 hi hl ht
    have e : x3 = x0 := by
      rw [List.take_of_length_le (by omega), List.take_of_length_le (by omega)] at ht; exact ht
    rw [e]
    exact Ev.end_ (fun k => by simp only [laws_toIntS.l0]; rw [if_neg (by omega)])
  | succ d ih =>
    intro i x3 hi hl ht
    have hlt : i < x0.length := by omega
    refine Ev.step (fun k => ?_) (ih (i + 1) (x3.set i x0[i]) (by omega) (by simpa using hl) (set_takeI x0 x3 i hlt hl ht))
    simp only [laws_toIntS.l0]
    rw [if_pos (by omega), if_pos (by omega), if_pos (by omega), wrap_succ i (by omega), rdI hlt, Int.toNat_natCast]
theorem toInts (l : List Int) (hmax : l.length ≤ 1048576) : Ev (fun k => laws_toIntS.f k l) l := by
  obtain ⟨K, hK⟩ := toInts_l0 l hmax l.length 0 (List.replicate l.length 0) (by omega) (by simp) (by simp)
  refine ⟨K, fun k hk => ?_⟩
  have h1 := hK k hk
  simp only [Int.ofNat_zero, Int.natCast_zero] at h1
  dsimp only
  unfold laws_toIntS.f
  rw [if_pos (by omega), if_pos (by rw [Int.toNat_natCast]; omega), Int.toNat_natCast]
  exact h1
theorem eqInts_l0 (l : List Int) (hmax : l.length ≤ 9223372036854775807) (d : Nat) : ∀ i : Nat, i + d = l.length → Ev (fun k => laws_eqIntS.l0 k l l (i : Int)) true := by
  induction d with
  | zero => intro i hi; exact Ev.end_ (fun k => by simp only [laws_eqIntS.l0]; rw [if_neg (by omega)])
  | succ d ih =>
    intro i hi
    refine Ev.step (fun k => ?_) (ih (i + 1) (by omega))
    simp only [laws_eqIntS.l0]
    rw [if_pos (by omega), if_pos (by omega), if_pos (by omega), if_pos trivial, wrap_succ i (by omega)]
theorem eqInts (l : List Int) (hmax : l.length ≤ 9223372036854775807) : Ev (fun k => laws_eqIntS.f k l l) true := by
  obtain ⟨K, hK⟩ := eqInts_l0 l hmax l.length 0 (by omega)
  exact ⟨K, fun k hk => by dsimp only; unfold laws_eqIntS.f; rw [if_pos rfl]; exact hK k hk⟩
end Go.Proofs.Ythocimpklhfahaa.P
