/- Plain lemmas: both SliceThree are one. No program, no memory. -/
import Derived.Test.YthomfanpdnpmaaaPx11
import Derived.Test.YthomfanpdnpmaaaAreOn
import Derived.Test.YthomfanpdnpmaaaWin
namespace Go.Proofs.Ythomfanpdnpmaaa.P
open Go.RowKit Go.Proofs.YthomfanpdnpmaaaW.PrintWords Go.Proofs.YthomfanpdnpmaaaW.PrintLast Go.Proofs.YthomfanpdnpmaaaW.PrintMore
set_option linter.unusedVariables false
set_option linter.unusedSimpArgs false
def slice3 (m : List (List Int)) (a s l c i j k : Int) : Int × Int × Int × Int × Bool :=
  if ((memOk m && winOn m a s l c) && (inB k 0 c && (inB j 0 k && inB i 0 j))) = true then (a, wrap64 (s + i), wrap64 (j - i), wrap64 (k - i), true) else (0, 0, 0, 0, false)
theorem spec_slice3 (m : List (List Int)) (hm : Fit m) (a s l c i j k3 : Int) (hs : -9223372036854775808 ≤ s ∧ s ≤ 9223372036854775807) : Ev (fun k => spec_SliceThree.f k m a s l c i j k3) (slice3 m a s l c i j k3) := by
  obtain ⟨K, hK⟩ := l2Win m hm a s l c hs
  refine ⟨K, fun k hk => ?_⟩
  have e1 := hK k hk
  dsimp only at e1 ⊢
  simp only [spec_SliceThree.f, e1, Option.bind_some, l1In_eq, spec_l2Slice.f]
  unfold slice3
  cases memOk m && winOn m a s l c <;> cases inB k3 0 c <;> cases inB j 0 k3 <;> cases inB i 0 j <;> rfl
theorem impl_slice3 (m : List (List Int)) (hm : Fit m) (a s l c i j k3 : Int) : Ev (fun k => impl_SliceThree.f k m a s l c i j k3) (slice3 m a s l c i j k3) := by
  obtain ⟨K, hK⟩ := areOn_ev m hm [⟨a, s, l, c⟩]
  refine ⟨K, fun k hk => ?_⟩
  have e1 := hK k hk
  simp only [List.all_cons, List.all_nil, Bool.and_true] at e1
  dsimp only
  simp only [impl_SliceThree.f, e1, Option.bind_some, within_eq]
  unfold slice3
  cases memOk m && winOn m a s l c <;> cases inB k3 0 c <;> cases inB j 0 k3 <;> cases inB i 0 j <;> rfl
end Go.Proofs.Ythomfanpdnpmaaa.P
