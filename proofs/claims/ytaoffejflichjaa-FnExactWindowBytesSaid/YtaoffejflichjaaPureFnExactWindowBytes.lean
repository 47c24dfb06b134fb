/- The law FnExactWindowBytes answers true for every input. No condition beyond the row's own. -/
import Derived.Test.YtaoffejflichjaaStFnExactWindowBytes
import Derived.Test.YtaoffejflichjaaSeen
import Derived.Test.YtaoffejflichjaaAreOn
import Derived.Test.YtaoffejflichjaaWin
import Derived.Test.YtaoffejflichjaaMkBytes
import Derived.Test.YtaoffejflichjaaClone
import Derived.Test.YtaoffejflichjaaPx5
import Derived.Test.YtaoffejflichjaaL2Bytes
namespace Go.Proofs.Ytaoffejflichjaa.P
open Go.RowKit Go.Proofs.YtaoffejflichjaaW.PrintWords Go.Proofs.YtaoffejflichjaaW.PrintLast Go.Proofs.YtaoffejflichjaaW.PrintMore
set_option linter.unusedVariables false
set_option linter.unusedSimpArgs false
def windowBytesR (m : List (List Int)) (a s l c : Int) : List Int × Bool := if memOk m = true then (if winOn m a s l c = true then (seen m a s l, true) else ([], false)) else ([], false)
theorem windowBytes_spec (m : List (List Int)) (hm : Fit m) (a s l c : Int) (hs : -9223372036854775808 ≤ s ∧ s ≤ 9223372036854775807) : Ev (fun k => spec_WindowBytes.f k m a s l c) (windowBytesR m a s l c) := by
  obtain ⟨K, hK⟩ := l2Win m hm a s l c hs
  unfold windowBytesR
  cases h1 : memOk m with
  | false =>
    refine ⟨K, fun k hk => ?_⟩
    have e1 := hK k hk
    dsimp only at e1 ⊢
    rw [spec_WindowBytes.f, e1, h1]; rfl
  | true =>
    cases h2 : winOn m a s l c with
    | false =>
      refine ⟨K, fun k hk => ?_⟩
      have e1 := hK k hk
      dsimp only at e1 ⊢
      rw [spec_WindowBytes.f, e1, h1, h2]; rfl
    | true =>
      obtain ⟨K2, h3⟩ := l2Bytes_ev h1 h2
      refine ⟨K + K2, fun k hk => ?_⟩
      have e1 := hK k (by omega)
      have e2 := h3 k (by omega)
      dsimp only at e1 e2 ⊢
      rw [spec_WindowBytes.f, e1, h1, h2, Bool.and_self, Option.bind_some, if_pos rfl, e2]; rfl
theorem windowBytes_impl (m : List (List Int)) (hm : Fit m) (a s l c : Int) : Ev (fun k => impl_WindowBytes.f k m a s l c) (windowBytesR m a s l c) := by
  obtain ⟨K, hK⟩ := areOn_ev m hm [⟨a, s, l, c⟩]
  unfold windowBytesR
  refine ⟨K, fun k hk => ?_⟩
  have e1 := hK k hk
  dsimp only [List.all_cons, List.all_nil] at e1 ⊢
  rw [impl_WindowBytes.f, e1, Option.bind_some, Bool.and_true]
  cases h1 : memOk m with
  | false => rfl
  | true =>
    cases h2 : winOn m a s l c with
    | false => rfl
    | true =>
      rw [Bool.and_self, if_pos rfl, if_pos rfl, if_pos rfl, seen_eq h1 h2, Option.bind_some, slices_Clone_byte_byte.f, if_pos (by have := seen_len h1 h2; have := (win_sm h1 h2).2.2.2.2.2.1; have := (win_sm h1 h2).2.2.2.2.1; omega)]
      rfl
theorem FnExactWindowBytes_ok : FnExactWindowBytesTrue := by
  intro A0 c0 m a s l c w hr hc hm h1 h2 h3 h4
  have hfit : Fit m := ⟨hm.1, fun a ha => (hm.2 a ha).1⟩
  obtain ⟨r, ⟨K0, h0⟩, hz⟩ := szMem m hfit
  dsimp only at h0
  by_cases hr0 : r < 0
  · exact laws_FnExactWindowBytes.exit1 K0 A0 c0 m a s l c r w hr hc (h0 K0 (Nat.le_refl _)) hr0
  · obtain ⟨hsm, hr1⟩ := hz hr0
    obtain ⟨K1, e1⟩ := toMem m hsm
    obtain ⟨K2, e2⟩ := eqMem m hfit
    obtain ⟨K3, e3⟩ := windowBytes_spec m hfit a s l c (wf64 h2)
    obtain ⟨K4, e4⟩ := windowBytes_impl m hfit a s l c
    have hg : (windowBytesR m a s l c).1.length ≤ 1048576 := by
      unfold windowBytesR
      cases h1 : memOk m with
      | false => simp
      | true =>
        cases h2 : winOn m a s l c with
        | false => simp
        | true => simp only [if_true]; have := seen_len h1 h2; have := (win_sm h1 h2).2.2.2.2.2.1; have := (win_sm h1 h2).2.2.2.2.1; omega
    obtain ⟨⟨g, ok⟩, hgo⟩ : ∃ x, x = windowBytesR m a s l c := ⟨_, rfl⟩
    rw [← hgo] at e3 e4 hg
    dsimp only at hg
    obtain ⟨K5, e5⟩ := eqS g (by omega)
    obtain ⟨K6, e6⟩ := markMem m 1 hsm (by omega) (by omega)
    obtain ⟨K7, e7⟩ := markBytes g 1 (by omega) (by omega) (by omega)
    obtain ⟨K8, e8⟩ := heldBytes 1 g.length (by omega) (by omega) (by omega)
    obtain ⟨K, hK⟩ : ∃ K, K = K0 + K1 + K2 + K3 + K4 + K5 + K6 + K7 + K8 := ⟨_, rfl⟩
    exact laws_FnExactWindowBytes.walk K A0 c0 m a s l c r m a s l c g ok g _ _ _ _ w hr hc (h0 K (by omega)) (e1 K (by omega)) rfl (e3 K (by omega)) (e4 K (by omega)) (e5 K (by omega)) (e2 K (by omega)) (e6 K (by omega)) (e7 K (by omega)) (e8 K (by omega)) hr0 (by omega) (by omega)
end Go.Proofs.Ytaoffejflichjaa.P
