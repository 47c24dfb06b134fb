/- The law FnExactSplitString answers true for every input. No condition beyond the row's own. -/
import Derived.Test.YtoopmaoclcobeaaDoorStFnExactSplitString
import Derived.Test.YtoopmaoclcobeaaDoorSplitP
import Derived.Test.YtoopmaoclcobeaaDoorMkText
namespace Go.Proofs.YtoopmaoclcobeaaDoor.P
open Go.RowKit Go.Proofs.YtoopmaoclcobeaaDoorW.PrintWords Go.Proofs.YtoopmaoclcobeaaDoorW.PrintLast Go.Proofs.YtoopmaoclcobeaaDoorW.PrintMore
set_option linter.unusedVariables false
set_option linter.unusedSimpArgs false
theorem one_byte {s : ByteArray} (h : s.size = 1) : ∃ c : UInt8, s.data.toList = [c] ∧ bt s 0 = (c.toNat : Int) := by
  have hs := size_list s
  rcases hl : s.data.toList with _ | ⟨c, r⟩
  · rw [hl] at hs; simp only [List.length_nil] at hs; omega
  · rw [hl, List.length_cons] at hs
    obtain rfl : r = [] := List.eq_nil_of_length_eq_zero (by omega)
    refine ⟨c, rfl, ?_⟩
    have := bt_get s 0 (by rw [hl]; simp)
    simp only [hl, List.getElem_cons_zero] at this
    exact this
theorem split_both (a b : ByteArray) (ha : a.size ≤ 1048576) : ∃ v : List ByteArray × Bool, v.1.length ≤ 1048576 ∧ Ev (fun k => spec_SplitString.f k a b) v ∧ impl_SplitString.f a b = some v := by
  by_cases h1 : b.size = 1
  · by_cases h4 : a.size > 4000
    · refine ⟨([], false), by simp, ⟨0, fun k _ => ?_⟩, ?_⟩
      · dsimp only
        rw [spec_SplitString.f, if_pos (by omega), if_pos (by omega)]
      · rw [impl_SplitString.f, if_pos (by omega)]
    · obtain ⟨c, hc, hb⟩ := one_byte h1
      obtain ⟨K, hK⟩ := split_ev a c ha
      have hl := parts_len c a.data.toList
      have hs := size_list a
      refine ⟨((parts c a.data.toList).map baOf, true), by simp only [List.length_map]; omega, ⟨K, fun k hk => ?_⟩, ?_⟩
      · have e := hK k hk
        dsimp only at e ⊢
        rw [spec_SplitString.f, if_pos (by omega), if_neg (by omega), if_pos (by omega), hb, e, Option.bind_some]
      · rw [impl_SplitString.f, if_neg (by omega), if_pos (by omega)]
        unfold strings_Split.f
        rw [if_pos ⟨by omega, by omega⟩, splitB_parts a b c hc, Option.bind_some]
  · refine ⟨([], false), by simp, ⟨0, fun k _ => ?_⟩, ?_⟩
    · dsimp only
      rw [spec_SplitString.f, if_neg (by omega)]
    · rw [impl_SplitString.f]
      by_cases h4 : a.size > 4000
      · rw [if_pos (by omega)]
      · rw [if_neg (by omega), if_neg (by omega)]
theorem FnExactSplitString_ok : FnExactSplitStringPure := by
  intro a b _ _
  by_cases h0 : (a.size : Int) > 1048576
  · exact ⟨0, by rw [laws_FnExactSplitString.f, if_pos h0]⟩
  · by_cases h1 : (b.size : Int) > 1048576
    · exact ⟨0, by rw [laws_FnExactSplitString.f, if_neg h0, if_pos h1]⟩
    · obtain ⟨⟨v, ok⟩, hl, ⟨K1, e1⟩, e2⟩ := split_both a b (by omega)
      obtain ⟨K3, e3⟩ := eqT v hl
      obtain ⟨K4, e4⟩ := markT v hl
      obtain ⟨K5, e5⟩ := heldT v.length hl
      obtain ⟨K, hK⟩ : ∃ K, K = K1 + K3 + K4 + K5 := ⟨_, rfl⟩
      have e1 := e1 (K + 2) (by omega)
      have e3a := e3 (K + 2) (by omega)
      have e3b := e3 (K + 1) (by omega)
      have e4 := e4 (K + 1) (by omega)
      have e5a := e5 (K + 1) (by omega)
      have e5b := e5 K (by omega)
      dsimp only at e1 e3a e3b e4 e5a e5b
      refine ⟨K + 2, ?_⟩
      have hok : (ok != ok) = false := by cases ok <;> rfl
      rw [laws_FnExactSplitString.f, if_neg h0, if_neg h1, e1, Option.bind_some, e2, Option.bind_some, e3a, Option.bind_some, if_pos rfl, laws_FnExactSplitString.j0, hok, if_neg Bool.false_ne_true, e4, Option.bind_some, e5a, Option.bind_some, if_neg (by omega), if_pos rfl, e2, Option.bind_some, e3b, Option.bind_some, if_pos rfl, laws_FnExactSplitString.j1, if_neg (show ¬ (ok != ok) = true from by rw [hok]; exact Bool.false_ne_true), e5b, Option.bind_some, if_neg (by omega), if_pos rfl]
end Go.Proofs.YtoopmaoclcobeaaDoor.P
