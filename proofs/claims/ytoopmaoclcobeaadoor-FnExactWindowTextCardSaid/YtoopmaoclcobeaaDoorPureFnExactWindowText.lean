/- The law FnExactWindowText answers true for every input. No condition beyond the row's own. -/
import Derived.Test.YtoopmaoclcobeaaDoorStFnExactWindowText
import Derived.Test.YtoopmaoclcobeaaDoorNumP
import Derived.Test.YtoopmaoclcobeaaDoorBase
import Derived.Test.YtoopmaoclcobeaaDoorTexts
namespace Go.Proofs.YtoopmaoclcobeaaDoor.P
open Go.RowKit Go.Proofs.YtoopmaoclcobeaaDoorW.PrintWords Go.Proofs.YtoopmaoclcobeaaDoorW.PrintLast Go.Proofs.YtoopmaoclcobeaaDoorW.PrintMore
set_option linter.unusedVariables false
set_option linter.unusedSimpArgs false
def winB (a b c d : Int) : ByteArray := itoaB a ++ (⟨#[58]⟩ : ByteArray) ++ itoaB b ++ (⟨#[58]⟩ : ByteArray) ++ itoaB c ++ (⟨#[58]⟩ : ByteArray) ++ itoaB d
theorem winB_join (a b c d : Int) : (⟨(Lib.join ([itoaB a, itoaB b, itoaB c, itoaB d].map (·.data.toList)) [58]).toArray⟩ : ByteArray) = winB a b c d := by
  apply ba_ext
  rw [join_jt]
  unfold winB
  simp only [app_list, jt]
  simp
theorem rd4 (a b c d : Int) : rd [a, b, c, d] 0 = a ∧ rd [a, b, c, d] 1 = b ∧ rd [a, b, c, d] 2 = c ∧ rd [a, b, c, d] 3 = d := ⟨rfl, rfl, rfl, rfl⟩
theorem win_spec (a b c d : Int) (ha : -9223372036854775808 ≤ a ∧ a ≤ 9223372036854775807) (hb : -9223372036854775808 ≤ b ∧ b ≤ 9223372036854775807) (hc : -9223372036854775808 ≤ c ∧ c ≤ 9223372036854775807) (hd : -9223372036854775808 ≤ d ∧ d ≤ 9223372036854775807) : Ev (fun k => spec_WindowText.f k a b c d) (winB a b c d) := by
  obtain ⟨K0, h0⟩ := num_ev a ha.1 ha.2
  obtain ⟨K1, h1⟩ := num_ev b hb.1 hb.2
  obtain ⟨K2, h2⟩ := num_ev c hc.1 hc.2
  obtain ⟨K3, h3⟩ := num_ev d hd.1 hd.2
  have s0 := itoaB_size a ha.1 ha.2
  have s1 := itoaB_size b hb.1 hb.2
  have s2 := itoaB_size c hc.1 hc.2
  have s3 := itoaB_size d hd.1 hd.2
  refine ⟨K0 + K1 + K2 + K3, fun k hk => ?_⟩
  have e0 := h0 k (by omega)
  have e1 := h1 k (by omega)
  have e2 := h2 k (by omega)
  have e3 := h3 k (by omega)
  have z : (⟨#[58]⟩ : ByteArray).size = 1 := rfl
  dsimp only at e0 e1 e2 e3 ⊢
  rw [spec_WindowText.f, e0, Option.bind_some, if_pos (by omega), e1, Option.bind_some, if_pos (by simp only [app_size, z]; omega), if_pos (by simp only [app_size, z]; omega), e2, Option.bind_some, if_pos (by simp only [app_size, z]; omega), if_pos (by simp only [app_size, z]; omega), e3, Option.bind_some, if_pos (by simp only [app_size, z]; omega)]
  rfl
theorem win_impl (a b c d : Int) (ha : -9223372036854775808 ≤ a ∧ a ≤ 9223372036854775807) (hb : -9223372036854775808 ≤ b ∧ b ≤ 9223372036854775807) (hc : -9223372036854775808 ≤ c ∧ c ≤ 9223372036854775807) (hd : -9223372036854775808 ≤ d ∧ d ≤ 9223372036854775807) (k : Nat) : impl_WindowText.f (k + 5) a b c d = some (winB a b c d) := by
  have s0 := itoaB_size a ha.1 ha.2
  have s1 := itoaB_size b hb.1 hb.2
  have s2 := itoaB_size c hc.1 hc.2
  have s3 := itoaB_size d hd.1 hd.2
  have hj := winB_join a b c d
  have hz : (winB a b c d).size ≤ 100 := by
    unfold winB
    have z : (⟨#[58]⟩ : ByteArray).size = 1 := rfl
    simp only [app_size, z]; omega
  have hl : (Lib.join ([itoaB a, itoaB b, itoaB c, itoaB d].map (·.data.toList)) [58]).length ≤ 140737488355328 := by
    have := congrArg ByteArray.size hj
    rw [size_list] at this
    have h2 : ((⟨(Lib.join ([itoaB a, itoaB b, itoaB c, itoaB d].map (·.data.toList)) [58]).toArray⟩ : ByteArray).data.toList).length = (Lib.join ([itoaB a, itoaB b, itoaB c, itoaB d].map (·.data.toList)) [58]).length := rfl
    omega
  have w1 : wrap64 (0 + 1) = 1 := (wrap_in (x := 0 + 1) (by omega) (by omega)).trans rfl
  have w2 : wrap64 (1 + 1) = 2 := (wrap_in (x := 1 + 1) (by omega) (by omega)).trans rfl
  have w3 : wrap64 (2 + 1) = 3 := (wrap_in (x := 2 + 1) (by omega) (by omega)).trans rfl
  have w4 : wrap64 (3 + 1) = 4 := (wrap_in (x := 3 + 1) (by omega) (by omega)).trans rfl
  obtain ⟨r0, r1, r2, r3⟩ := rd4 a b c d
  have L : (([a, b, c, d] : List Int).length : Int) = 4 := rfl
  rw [impl_WindowText.f, Option.bind_some, L]
  rw [impl_WindowText.l0, if_pos (by omega), if_pos (by omega), if_pos (by rw [L]; omega), r0, itoa_eq a ha.1 ha.2, Option.bind_some, if_pos (by decide), w1, List.nil_append]
  rw [impl_WindowText.l0, if_pos (by omega), if_pos (by omega), if_pos (by rw [L]; omega), r1, itoa_eq b hb.1 hb.2, Option.bind_some, if_pos (by simp), w2]
  rw [impl_WindowText.l0, if_pos (by omega), if_pos (by omega), if_pos (by rw [L]; omega), r2, itoa_eq c hc.1 hc.2, Option.bind_some, if_pos (by simp), w3]
  rw [impl_WindowText.l0, if_pos (by omega), if_pos (by omega), if_pos (by rw [L]; omega), r3, itoa_eq d hd.1 hd.2, Option.bind_some, if_pos (by simp), w4]
  rw [impl_WindowText.l0, if_neg (by omega)]
  unfold strings_Join.f
  rw [if_pos ⟨by simp, hl⟩, Option.bind_some]
  exact congrArg some hj
theorem FnExactWindowText_ok : FnExactWindowTextPure := by
  intro a b c d w0 w1 w2 w3
  obtain ⟨K, hK⟩ := win_spec a b c d (wf64 w0) (wf64 w1) (wf64 w2) (wf64 w3)
  have e := hK (K + 5) (by omega)
  have e2 := win_impl a b c d (wf64 w0) (wf64 w1) (wf64 w2) (wf64 w3) K
  dsimp only at e
  refine ⟨K + 5, ?_⟩
  rw [laws_FnExactWindowText.f, laws_toWindow.f, Option.bind_some, e, Option.bind_some, Option.bind_some, e2, Option.bind_some, if_pos rfl]
end Go.Proofs.YtoopmaoclcobeaaDoor.P
