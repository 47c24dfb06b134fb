/- Plain lemmas: what the reader of a code gives: bounds alone. No program, no memory. -/
import Derived.Test.YtlcikalgphafaaaDoorPx9
import Derived.Test.YtlcikalgphafaaaDoorPx10
import Derived.Test.YtlcikalgphafaaaDoorBase
import Derived.Lib.EndianBits
namespace Go.Proofs.YtlcikalgphafaaaDoor.P
open Go.RowKit Go.Proofs.YtlcikalgphafaaaDoorW.PrintWords Go.Proofs.YtlcikalgphafaaaDoorW.PrintLast Go.Proofs.YtlcikalgphafaaaDoorW.PrintMore
set_option linter.unusedVariables false
set_option linter.unusedSimpArgs false
/-- A code: bytes. -/
def IsCode (l : List Int) : Prop := ∀ x ∈ l, 0 ≤ x ∧ x < 256
theorem rdc {l : List Int} (hc : IsCode l) {i : Int} (h0 : 0 ≤ i) (h1 : i < (l.length : Int)) : 0 ≤ rd l i ∧ rd l i < 256 := by
  unfold rd
  rw [List.getD_eq_getElem?_getD, List.getElem?_eq_getElem (by omega : i.toNat < l.length)]
  exact hc _ (List.getElem_mem _)
theorem and255 (x : Int) (h0 : 0 ≤ x) (h1 : x < 18446744073709551616) : 0 ≤ Go.bits .and .u64 x 255 ∧ Go.bits .and .u64 x 255 < 256 := by
  have h := Go.bits_mask .u64 64 (by decide) Go.wraps_u64 8 (by decide) x h0 (by omega)
  have h2 : Go.bits .and .u64 x 255 = x % 256 := by simpa using h
  omega
theorem u64r (x : Int) : 0 ≤ IntKind.u64.wrap x ∧ IntKind.u64.wrap x < 18446744073709551616 := by rw [IntKind.wrap_u64]; omega
theorem next_ok {l : List Int} (hc : IsCode l) (a s : Int) (h0 : 0 ≤ a) (h1 : a ≤ 1099511627776) : ∃ b s', spec_l1Cur_next.f l a s = some (b, a + 1, s') ∧ 0 ≤ b ∧ b < 256 := by
  have hw : wrap64 (a + 1) = a + 1 := wrap_in (by omega) (by omega)
  rw [spec_l1Cur_next.f, hw]
  by_cases h : a < (l.length : Int)
  · have hb := rdc hc h0 h
    rw [if_pos h, if_pos h0, if_pos (by omega), wrap_in (x := rd l a) (by omega) (by omega)]
    exact ⟨_, _, rfl, hb⟩
  · rw [if_neg h, if_neg (by omega)]
    have hu := u64r ((IntKind.u64.wrap ((IntKind.u64.wrap (s * 6364136223846793005)) + 0)) + 462197)
    have h2 := and255 (IntKind.u64.wrap ((IntKind.u64.wrap ((IntKind.u64.wrap (s * 6364136223846793005)) + 0)) + 462197) / 1099511627776) (by omega) (by omega)
    rw [wrap_in (x := Go.bits .and .u64 (IntKind.u64.wrap ((IntKind.u64.wrap ((IntKind.u64.wrap (s * 6364136223846793005)) + 0)) + 462197) / 1099511627776) 255) (by omega) (by omega)]
    exact ⟨_, _, rfl, h2⟩
theorem pick_ok {l : List Int} (hc : IsCode l) (a s n : Int) (h0 : 0 ≤ a) (h1 : a ≤ 1099511627774) (hn : 1 ≤ n) (hm : n ≤ 1099511627776) : ∃ x a' s', spec_l1Cur_pick.f l a s n = some (x, a', s') ∧ 0 ≤ x ∧ x < n ∧ a ≤ a' ∧ a' ≤ a + 2 := by
  rw [spec_l1Cur_pick.f]
  by_cases h : n ≤ 1
  · rw [if_pos h]
    exact ⟨0, a, s, rfl, by omega, by omega, by omega, by omega⟩
  · obtain ⟨b, s1, e1, hb⟩ := next_ok hc a s h0 (by omega)
    rw [if_neg h, e1, Option.bind_some]
    by_cases h2 : n > 200
    · obtain ⟨b2, s2, e2, hb2⟩ := next_ok hc (a + 1) s1 (by omega) (by omega)
      rw [if_pos h2, e2, Option.bind_some, if_neg (by omega), wrap_in (x := b * 256) (by omega) (by omega), wrap_in (x := b * 256 + b2) (by omega) (by omega), Int.tmod_eq_emod_of_nonneg (by omega)]
      exact ⟨_, _, _, rfl, Int.emod_nonneg _ (by omega), Int.emod_lt_of_pos _ (by omega), by dsimp only; omega, by dsimp only; omega⟩
    · rw [if_neg h2, if_neg (by omega), Int.tmod_eq_emod_of_nonneg (by omega)]
      exact ⟨_, _, _, rfl, Int.emod_nonneg _ (by omega), Int.emod_lt_of_pos _ (by omega), by dsimp only; omega, by dsimp only; omega⟩
theorem of_ok {l : List Int} (hc : IsCode l) (a s : Int) (h0 : 0 ≤ a) (h1 : a ≤ 1099511627774) (t : List ByteArray) (hn : 1 ≤ t.length) (hm : t.length ≤ 1000000) : ∃ x a' s', spec_l1Cur_of.f l a s t = some (x, a', s') ∧ x ∈ t ∧ a ≤ a' ∧ a' ≤ a + 2 := by
  obtain ⟨i, a', s', e, g0, g1, g2⟩ := pick_ok hc a s (t.length : Int) h0 h1 (by omega) (by omega)
  rw [spec_l1Cur_of.f, e, Option.bind_some, if_pos g0, if_pos g1]
  refine ⟨_, _, _, rfl, ?_, g2⟩
  unfold rdOf
  rw [List.getD_eq_getElem?_getD, List.getElem?_eq_getElem (by omega : i.toNat < t.length)]
  exact List.getElem_mem _
theorem one_ok {l : List Int} (hc : IsCode l) (a s n : Int) (h0 : 0 ≤ a) (h1 : a ≤ 1099511627774) (hn : 1 ≤ n) (hm : n ≤ 1099511627776) : ∃ x a' s', spec_l1Cur_one.f l a s n = some (x, a', s') ∧ a ≤ a' ∧ a' ≤ a + 2 := by
  obtain ⟨i, a', s', e, _, _, g2⟩ := pick_ok hc a s n h0 h1 hn hm
  rw [spec_l1Cur_one.f, e, Option.bind_some]
  exact ⟨_, _, _, rfl, g2⟩
theorem any1_ok {l : List Int} (hc : IsCode l) (a s : Int) (h0 : 0 ≤ a) (h1 : a ≤ 1099511627774) : ∃ x a' s', spec_l1Cur_any1.f l a s = some (x, a', s') ∧ x.size ≤ 10 ∧ a ≤ a' ∧ a' ≤ a + 2 := by
  obtain ⟨x, a', s', e, hx, g2⟩ := of_ok hc a s h0 h1 [(⟨#[]⟩ : ByteArray), (⟨#[97]⟩ : ByteArray), (⟨#[97, 44, 98]⟩ : ByteArray), (⟨#[115, 111, 109, 101, 32, 119, 111, 114, 100, 115]⟩ : ByteArray), (⟨#[120, 35, 121]⟩ : ByteArray), (⟨#[45, 49, 50]⟩ : ByteArray), (⟨#[0, 255]⟩ : ByteArray), (⟨#[44, 44]⟩ : ByteArray), (⟨#[48]⟩ : ByteArray)] (by decide) (by decide)
  rw [spec_l1Cur_any1.f, e, Option.bind_some]
  refine ⟨x, _, _, rfl, ?_, g2⟩
  simp only [List.mem_cons, List.mem_nil_iff, or_false] at hx
  rcases hx with rfl | rfl | rfl | rfl | rfl | rfl | rfl | rfl | rfl <;> decide
end Go.Proofs.YtlcikalgphafaaaDoor.P
