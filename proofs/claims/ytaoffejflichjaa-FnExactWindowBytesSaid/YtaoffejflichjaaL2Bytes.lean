/- Plain lemmas: the bytes that the reference reads of a window. -/
import Derived.Test.YtaoffejflichjaaSeen
import Derived.Test.YtaoffejflichjaaPx5
namespace Go.Proofs.Ytaoffejflichjaa.P
open Go.RowKit Go.Proofs.YtaoffejflichjaaW.PrintWords Go.Proofs.YtaoffejflichjaaW.PrintLast Go.Proofs.YtaoffejflichjaaW.PrintMore
set_option linter.unusedVariables false
set_option linter.unusedSimpArgs false
theorem rd_get {xs : List Int} {i : Nat} (h : i < xs.length) : rd xs (i : Int) = xs[i] := by
  unfold rd
  rw [Int.toNat_natCast, List.getD_eq_getElem?_getD, List.getElem?_eq_getElem h]; rfl
theorem l2Bytes_l0 (m : List (List Int)) (a s l c : Int) (hok : memOk m = true) (hw : winOn m a s l c = true) (d : Nat) : ∀ i : Nat, i + d = (seen m a s l).length →
    Ev (fun k => spec_l2Bytes.l0 k ((seen m a s l).take i) i m a s l c) (seen m a s l) := by
  have hb := win_sm hok hw
  have hl := seen_len hok hw
  unfold Sm at hb
  induction d with
  | zero =>
    intro i hi
    refine ⟨1, fun k hk => ?_⟩
    obtain ⟨k, rfl⟩ : ∃ j, k = j + 1 := ⟨k - 1, by omega⟩
    dsimp only
    unfold spec_l2Bytes.l0
    rw [if_neg (by omega), List.take_of_length_le (by omega)]
  | succ d ih =>
    intro i hi
    have hlt : i < (seen m a s l).length := by omega
    obtain ⟨K, hK⟩ := ih (i + 1) (by omega)
    refine ⟨K + 1, fun k hk => ?_⟩
    obtain ⟨k, rfl⟩ : ∃ j, k = j + 1 := ⟨k - 1, by omega⟩
    have e1 := hK k (by omega)
    dsimp only at e1 ⊢
    unfold spec_l2Bytes.l0
    rw [if_pos (by omega), at_eq hok hw (by omega) (by omega), Option.bind_some, rd_get hlt, if_pos (by rw [List.length_take]; omega), wrap_in (x := (i : Int) + 1) (by omega) (by omega)]
    rw [List.take_succ_eq_append_getElem hlt, show ((i + 1 : Nat) : Int) = (i : Int) + 1 by omega] at e1
    exact e1
theorem l2Bytes_ev {m : List (List Int)} {a s l c : Int} (hok : memOk m = true) (hw : winOn m a s l c = true) : Ev (fun k => spec_l2Bytes.f k m a s l c) (seen m a s l) := by
  have := l2Bytes_l0 m a s l c hok hw (seen m a s l).length 0 (by omega)
  exact this
end Go.Proofs.Ytaoffejflichjaa.P
