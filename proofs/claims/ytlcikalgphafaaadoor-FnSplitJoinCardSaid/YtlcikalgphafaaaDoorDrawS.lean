/- Plain lemmas: what is drawn to split, to join and to compare: bounds alone. No program, no memory. -/
import Derived.Test.YtlcikalgphafaaaDoorCurP
import Derived.Test.YtlcikalgphafaaaDoorPx9
import Derived.Test.YtlcikalgphafaaaDoorPx10
import Derived.Test.YtlcikalgphafaaaDoorPx11
import Derived.Test.YtlcikalgphafaaaDoorBase
import Derived.Test.YtlcikalgphafaaaDoorStrQ
namespace Go.Proofs.YtlcikalgphafaaaDoor.P
open Go.RowKit Go.Proofs.YtlcikalgphafaaaDoorW.PrintWords Go.Proofs.YtlcikalgphafaaaDoorW.PrintLast Go.Proofs.YtlcikalgphafaaaDoorW.PrintMore
set_option linter.unusedVariables false
set_option linter.unusedSimpArgs false
theorem drawSplit_ok {l : List Int} (hc : IsCode l) : ∃ s sep, spec_DrawSplitString.f l = some (s, sep) ∧ s.size ≤ 10 := by
  obtain ⟨x, a, s, e, hx, g⟩ := any1_ok hc 0 0 (by omega) (by omega)
  obtain ⟨y, a2, s2, e2, hy, g2⟩ := of_ok hc a s (by omega) (by omega) [(⟨#[44]⟩ : ByteArray), (⟨#[44]⟩ : ByteArray), (⟨#[32]⟩ : ByteArray), (⟨#[]⟩ : ByteArray), (⟨#[44, 44]⟩ : ByteArray)] (by decide) (by decide)
  rw [spec_DrawSplitString.f, e, Option.bind_some, e2, Option.bind_some]
  exact ⟨_, _, rfl, hx⟩
theorem drawLess_ok {l : List Int} (hc : IsCode l) : ∃ a b, spec_DrawLessString.f l = some (a, b) := by
  obtain ⟨x, a, s, e, hx, g⟩ := any1_ok hc 0 0 (by omega) (by omega)
  obtain ⟨y, a2, s2, e2, hy, g2⟩ := any1_ok hc a s (by omega) (by omega)
  rw [spec_DrawLessString.f, e, Option.bind_some, e2, Option.bind_some]
  exact ⟨_, _, rfl⟩
theorem nums_size (l : List Int) : (strOfNums l).size = l.length := by
  unfold strOfNums
  rw [size_list]
  simp
theorem drawJoin_l0 {l : List Int} (hc : IsCode l) (n d : Nat) (hn : n ≤ 4) : ∀ (i : Nat) (acc : List ByteArray) (a s : Int), i + d = n → acc.length = i → (∀ x ∈ acc, x.size ≤ 10) → 0 ≤ a → a ≤ 1000 + 2 * (i : Int) →
    ∃ ks mark, Ev (fun k => spec_DrawJoinStrings.l0 k acc (n : Int) (i : Int) l a s) (ks, mark) ∧ ks.length ≤ 5 ∧ ∀ x ∈ ks, x.size ≤ 4010 := by
  induction d with
  | zero =>
    intro i acc a s hi ha hs h0 h1
    obtain ⟨b, a1, s1, e1, g1⟩ := one_ok hc a s 20 h0 (by omega) (by omega) (by omega)
    cases b with
    | true =>
      obtain ⟨x, a2, s2, e2, g2, g3, g4⟩ := pick_ok hc a1 s1 20 (by omega) (by omega) (by omega) (by omega)
      obtain ⟨y, a3, s3, e3, hy, g5⟩ := of_ok hc a2 s2 (by omega) (by omega) [(⟨#[44]⟩ : ByteArray), (⟨#[59]⟩ : ByteArray), (⟨#[59]⟩ : ByteArray), (⟨#[]⟩ : ByteArray), (⟨#[97, 98]⟩ : ByteArray)] (by decide) (by decide)
      refine ⟨_, _, Ev.end_ (fun k => by rw [spec_DrawJoinStrings.l0, if_neg (by omega), e1, Option.bind_some, if_pos rfl, e2, Option.bind_some, wrap_in (x := 3990 + x) (by omega) (by omega), if_pos (by omega), if_pos (by omega), if_pos (by omega), e3, Option.bind_some]), ?_, ?_⟩
      · rw [List.length_append, List.length_singleton]; omega
      · intro z hz
        rcases List.mem_append.1 hz with hz | hz
        · have := hs z hz; omega
        · obtain rfl := List.mem_singleton.1 hz
          rw [nums_size, List.length_replicate]; omega
    | false =>
      obtain ⟨y, a3, s3, e3, hy, g5⟩ := of_ok hc a1 s1 (by omega) (by omega) [(⟨#[44]⟩ : ByteArray), (⟨#[59]⟩ : ByteArray), (⟨#[59]⟩ : ByteArray), (⟨#[]⟩ : ByteArray), (⟨#[97, 98]⟩ : ByteArray)] (by decide) (by decide)
      refine ⟨_, _, Ev.end_ (fun k => by rw [spec_DrawJoinStrings.l0, if_neg (by omega), e1, Option.bind_some, if_neg (by simp), e3, Option.bind_some]), by omega, fun z hz => by have := hs z hz; omega⟩
  | succ d ih =>
    intro i acc a s hi ha hs h0 h1
    obtain ⟨x, a1, s1, e1, hx, g1⟩ := any1_ok hc a s h0 (by omega)
    obtain ⟨ks, mark, h2, h3⟩ := ih (i + 1) (acc ++ [x]) a1 s1 (by omega) (by rw [List.length_append, List.length_singleton, ha]) (fun z hz => by
      rcases List.mem_append.1 hz with hz | hz
      · exact hs z hz
      · obtain rfl := List.mem_singleton.1 hz; exact hx) (by omega) (by omega)
    exact ⟨ks, mark, Ev.step (fun k => by rw [spec_DrawJoinStrings.l0, if_pos (by omega), e1, Option.bind_some, if_pos (by omega), wrap_succ i (by omega)]) h2, h3⟩
theorem drawJoin_ok {l : List Int} (hc : IsCode l) : ∃ ks mark, Ev (fun k => spec_DrawJoinStrings.f k l) (ks, mark) ∧ ks.length ≤ 5 ∧ ∀ x ∈ ks, x.size ≤ 4010 := by
  obtain ⟨x, a, s, e, g0, g1, g2⟩ := pick_ok hc 0 0 4 (by omega) (by omega) (by omega) (by omega)
  obtain ⟨ks, mark, ⟨K, hK⟩, h3⟩ := drawJoin_l0 hc x.toNat x.toNat (by omega) 0 [] a s (by omega) rfl (fun z hz => by cases hz) (by omega) (by omega)
  refine ⟨ks, mark, ⟨K, fun k hk => ?_⟩, h3⟩
  have e2 := hK k hk
  dsimp only at e2 ⊢
  rw [spec_DrawJoinStrings.f, e, Option.bind_some]
  rwa [show ((x.toNat : Nat) : Int) = x by omega] at e2
end Go.Proofs.YtlcikalgphafaaaDoor.P
