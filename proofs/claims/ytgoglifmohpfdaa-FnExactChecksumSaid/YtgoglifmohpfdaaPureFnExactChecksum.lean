/- The law FnExactChecksum answers true for every string: the program's Checksum and the reference's run the same sum. No condition beyond the row's own. -/
import Derived.Test.YtgoglifmohpfdaaPFnExactChecksumx1
namespace Go.Proofs.Ytgoglifmohpfdaa.Pure
open Go.RowKit Go.Proofs.Ytgoglifmohpfdaa.PFnExactChecksum Go.Proofs.YtgoglifmohpfdaaW.PrintWords Go.Proofs.YtgoglifmohpfdaaW.PrintLast

/-- From any place on both loops come to one sum. -/
theorem sums_agree (s : ByteArray) (hn : s.size ≤ 140737488351232) (d : Nat) : ∀ (k : Nat) (h i : Int), 0 ≤ i → i ≤ s.size → (s.size : Int) - i = d → d < k →
    ∃ r, spec_l1Sum.l0 k s h i = some r ∧ impl_checksum.l0 k s h (s.size : Int) i = some r := by
  induction d with
  | zero =>
    intro k h i h0 h1 hd hk
    obtain ⟨k, rfl⟩ : ∃ m, k = m + 1 := ⟨k - 1, by omega⟩
    refine ⟨h, ?_, ?_⟩
    · simp only [spec_l1Sum.l0]; rw [if_neg (by omega)]
    · simp only [impl_checksum.l0]; rw [if_neg (by omega)]
  | succ d ih =>
    intro k h i h0 h1 hd hk
    obtain ⟨k, rfl⟩ : ∃ m, k = m + 1 := ⟨k - 1, by omega⟩
    have hlt : i < (s.size : Int) := by omega
    have hw : wrap64 (i + 1) = i + 1 := by unfold wrap64; omega
    obtain ⟨r, e1, e2⟩ := ih k (Int.tmod (wrap64 ((wrap64 ((wrap64 (41 * h)) + (wrap64 (bt s i)))) + 1)) 999979) (i + 1) (by omega) (by omega) (by omega) (by omega)
    refine ⟨r, ?_, ?_⟩
    · simp only [spec_l1Sum.l0]; rw [if_pos hlt, if_pos h0, hw]; exact e1
    · simp only [impl_checksum.l0]; rw [if_pos hlt, if_pos h0, if_pos hlt, hw]; exact e2

theorem FnExactChecksum : laws_FnExactChecksum.Pure := by
  intro a0 h0
  unfold laws_FnExactChecksum.f
  by_cases hb : (a0.size : Int) > 1048576
  · exact ⟨0, by rw [if_pos hb]⟩
  · obtain ⟨r, h1, h2⟩ := sums_agree a0 h0 a0.size (a0.size + 1) 7 0 (by omega) (by omega) (by omega) (by omega)
    refine ⟨a0.size + 1, ?_⟩
    rw [if_neg hb]
    unfold spec_Checksum.f impl_Checksum.f spec_l1Sum.f impl_checksum.f
    by_cases hs : (a0.size : Int) > 4000
    · simp only [if_pos hs, Option.bind_some]; simp
    · simp only [if_neg hs, h1, h2, Option.bind_some]; simp

end Go.Proofs.Ytgoglifmohpfdaa.Pure
