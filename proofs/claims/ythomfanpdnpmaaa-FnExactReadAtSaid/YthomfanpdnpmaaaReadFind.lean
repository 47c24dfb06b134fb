/- Plain lemmas: ReadAt and FindByte in both programs. -/
import Derived.Test.YthomfanpdnpmaaaSeen
import Derived.Test.YthomfanpdnpmaaaAreOn
import Derived.Test.YthomfanpdnpmaaaWin
import Derived.Test.YthomfanpdnpmaaaPx5
import Derived.Test.YthomfanpdnpmaaaPx6
import Derived.Test.YthomfanpdnpmaaaPx8
import Derived.Test.YthomfanpdnpmaaaPx9
import Derived.Test.YthomfanpdnpmaaaFind
namespace Go.Proofs.Ythomfanpdnpmaaa.P
open Go.RowKit Go.Proofs.YthomfanpdnpmaaaW.PrintWords Go.Proofs.YthomfanpdnpmaaaW.PrintLast Go.Proofs.YthomfanpdnpmaaaW.PrintMore
set_option linter.unusedVariables false
set_option linter.unusedSimpArgs false
theorem areOn1_ev (m : List (List Int)) (hm : Fit m) (a s l c : Int) : Ev (fun k => impl_areOn.f k m [⟨a, s, l, c⟩]) (memOk m && winOn m a s l c) := by
  have h := areOn_ev m hm [⟨a, s, l, c⟩]
  simpa only [List.all_cons, List.all_nil, Bool.and_true] using h
theorem on_iff {m : List (List Int)} {a s l c : Int} : (memOk m && winOn m a s l c) = true ↔ memOk m = true ∧ winOn m a s l c = true := by simp only [Bool.and_eq_true]
def readAt (m : List (List Int)) (a s l c i : Int) : Int × Bool := if (memOk m && winOn m a s l c) = true then (if inB i 0 (l - 1) = true then (rd (seen m a s l) i, true) else (0, false)) else (0, false)
theorem readAt_spec (m : List (List Int)) (hm : Fit m) (a s l c i : Int) (hs : -9223372036854775808 ≤ s ∧ s ≤ 9223372036854775807) : Ev (fun k => spec_ReadAt.f k m a s l c i) (readAt m a s l c i) := by
  obtain ⟨K, hK⟩ := l2Win m hm a s l c hs
  refine ⟨K, fun k hk => ?_⟩
  have e1 := hK k hk
  dsimp only at e1 ⊢
  unfold readAt
  simp only [spec_ReadAt.f, e1, Option.bind_some, l1In_eq]
  by_cases h : (memOk m && winOn m a s l c) = true
  · obtain ⟨hok, hw⟩ := on_iff.mp h
    have hb := win_sm hok hw
    unfold Sm at hb
    rw [if_pos h, if_pos h, wrap_in (x := l - 1) (by omega) (by omega)]
    by_cases h2 : inB i 0 (l - 1) = true
    · have h3 : 0 ≤ i ∧ i ≤ l - 1 := by unfold inB at h2; simpa only [decide_eq_true_eq] using h2
      rw [if_pos h2, if_pos h2, at_eq hok hw h3.1 (by omega), Option.bind_some]
    · rw [if_neg h2, if_neg h2]
  · rw [if_neg h, if_neg h]
theorem readAt_impl (m : List (List Int)) (hm : Fit m) (a s l c i : Int) : Ev (fun k => impl_ReadAt.f k m a s l c i) (readAt m a s l c i) := by
  obtain ⟨K, hK⟩ := areOn1_ev m hm a s l c
  refine ⟨K, fun k hk => ?_⟩
  have e1 := hK k hk
  dsimp only at e1 ⊢
  unfold readAt
  simp only [impl_ReadAt.f, e1, Option.bind_some, within_eq]
  by_cases h : (memOk m && winOn m a s l c) = true
  · obtain ⟨hok, hw⟩ := on_iff.mp h
    have hb := win_sm hok hw
    have hl := seen_len hok hw
    unfold Sm at hb
    rw [if_pos h, if_pos h, wrap_in (x := l - 1) (by omega) (by omega)]
    by_cases h2 : inB i 0 (l - 1) = true
    · have h3 : 0 ≤ i ∧ i ≤ l - 1 := by unfold inB at h2; simpa only [decide_eq_true_eq] using h2
      rw [if_pos h2, if_pos h2, seen_eq hok hw, Option.bind_some, if_pos h3.1, if_pos (by omega)]
    · rw [if_neg h2, if_neg h2]
  · rw [if_neg h, if_neg h]
/-- The place of a byte, or -1. -/
def findIn : List Int → Int → Int
  | [], _ => -1
  | x :: xs, y => if x = y then 0 else if findIn xs y = -1 then -1 else findIn xs y + 1
theorem findIn_ge : ∀ (xs : List Int) (y : Int), -1 ≤ findIn xs y
  | [], _ => by unfold findIn; omega
  | x :: xs, y => by
    have := findIn_ge xs y
    unfold findIn
    repeat' split
    all_goals omega
theorem findIn_lib : ∀ (xs : List Int) (y : Int), (∀ x ∈ xs, 0 ≤ x ∧ x < 256) → (0 ≤ y ∧ y < 256) → Lib.indexByte (Lib.bytesOf xs) y.toNat.toUInt8 = findIn xs y
  | [], _, _, _ => rfl
  | x :: xs, y, hx, hy => by
    have ih := findIn_lib xs y (fun z hz => hx z (List.mem_cons_of_mem _ hz)) hy
    have h0 := hx x List.mem_cons_self
    have e : (UInt8.ofNat x.toNat == y.toNat.toUInt8) = decide (x = y) := by
      rw [Bool.eq_iff_iff]
      simp only [beq_iff_eq, decide_eq_true_eq]
      constructor
      · intro h
        have h2 := congrArg UInt8.toNat h
        simp only [UInt8.toNat_ofNat', Nat.toUInt8] at h2
        omega
      · intro h; rw [h]
    have e2 : Lib.indexByte (Lib.bytesOf (x :: xs)) y.toNat.toUInt8 = if (UInt8.ofNat x.toNat == y.toNat.toUInt8) = true then 0 else if (Lib.indexByte (Lib.bytesOf xs) y.toNat.toUInt8 == -1) = true then -1 else Lib.indexByte (Lib.bytesOf xs) y.toNat.toUInt8 + 1 := rfl
    rw [e2, e, ih, show findIn (x :: xs) y = (if x = y then 0 else if findIn xs y = -1 then -1 else findIn xs y + 1) from rfl]
    simp only [decide_eq_true_eq, beq_iff_eq]
def findByte (m : List (List Int)) (a s l c x : Int) : Int × Bool := if (memOk m && winOn m a s l c) = true then (findIn (seen m a s l) x, true) else (0, false)
theorem findByte_l0 (m : List (List Int)) (a s l c x : Int) (hok : memOk m = true) (hw : winOn m a s l c = true) (d : Nat) : ∀ i : Nat, i + d = (seen m a s l).length →
    Ev (fun k => spec_FindByte.l0 k x i m a s l c) (if findIn ((seen m a s l).drop i) x = -1 then -1 else findIn ((seen m a s l).drop i) x + i, true) := by
  have hb := win_sm hok hw
  have hl := seen_len hok hw
  unfold Sm at hb
  induction d with
  | zero =>
    intro i hi
    refine ⟨1, fun k hk => ?_⟩
    obtain ⟨k, rfl⟩ : ∃ j, k = j + 1 := ⟨k - 1, by omega⟩
    rw [List.drop_eq_nil_of_le (by omega)]
    dsimp only
    unfold spec_FindByte.l0
    rw [if_neg (by omega)]
    rfl
  | succ d ih =>
    intro i hi
    have hlt : i < (seen m a s l).length := by omega
    obtain ⟨K, hK⟩ := ih (i + 1) (by omega)
    refine ⟨K + 1, fun k hk => ?_⟩
    obtain ⟨k, rfl⟩ : ∃ j, k = j + 1 := ⟨k - 1, by omega⟩
    have e1 := hK k (by omega)
    dsimp only at e1 ⊢
    unfold spec_FindByte.l0
    have er : rd (seen m a s l) (i : Int) = (seen m a s l)[i] := by
      unfold rd
      rw [Int.toNat_natCast, List.getD_eq_getElem?_getD, List.getElem?_eq_getElem hlt]; rfl
    rw [if_pos (by omega), at_eq hok hw (by omega) (by omega), Option.bind_some, er, List.drop_eq_getElem_cons hlt, wrap_in (x := (i : Int) + 1) (by omega) (by omega)]
    have hge := findIn_ge ((seen m a s l).drop (i + 1)) x
    by_cases hx : (seen m a s l)[i] = x
    · rw [if_pos hx]
      unfold findIn
      rw [if_pos hx, if_neg (by omega)]
      simp
    · rw [if_neg hx]
      unfold findIn
      rw [if_neg hx]
      have e3 : ((i + 1 : Nat) : Int) = (i : Int) + 1 := by omega
      rw [e3] at e1
      rw [e1]
      by_cases h9 : findIn ((seen m a s l).drop (i + 1)) x = -1
      · rw [if_pos h9, if_pos h9, if_pos rfl]
      · rw [if_neg h9, if_neg h9, if_neg (by omega)]
        simp only [Option.some.injEq, Prod.mk.injEq, and_true]
        omega
theorem findByte_spec (m : List (List Int)) (hm : Fit m) (a s l c x : Int) (hs : -9223372036854775808 ≤ s ∧ s ≤ 9223372036854775807) : Ev (fun k => spec_FindByte.f k m a s l c x) (findByte m a s l c x) := by
  obtain ⟨K, hK⟩ := l2Win m hm a s l c hs
  by_cases h : (memOk m && winOn m a s l c) = true
  · obtain ⟨hok, hw⟩ := on_iff.mp h
    obtain ⟨K2, h2⟩ := findByte_l0 m a s l c x hok hw (seen m a s l).length 0 (by omega)
    refine ⟨K + K2, fun k hk => ?_⟩
    have e1 := hK k (by omega)
    have e2 := h2 k (by omega)
    dsimp only at e1 e2 ⊢
    unfold findByte
    simp only [spec_FindByte.f, e1, Option.bind_some]
    rw [if_pos h, if_pos h]
    refine e2.trans ?_
    rw [List.drop_zero]
    have hge := findIn_ge (seen m a s l) x
    simp only [Option.some.injEq, Prod.mk.injEq, and_true]
    split
    · rename_i h9; exact h9.symm
    · simp
  · refine ⟨K, fun k hk => ?_⟩
    have e1 := hK k hk
    dsimp only at e1 ⊢
    unfold findByte
    simp only [spec_FindByte.f, e1, Option.bind_some]
    rw [if_neg h, if_neg h]
theorem findByte_impl (m : List (List Int)) (hm : Fit m) (hr : ∀ r ∈ m, ∀ x ∈ r, 0 ≤ x ∧ x < 256) (a s l c x : Int) (hx : 0 ≤ x ∧ x < 256) : Ev (fun k => impl_FindByte.f k m a s l c x) (findByte m a s l c x) := by
  obtain ⟨K, hK⟩ := areOn1_ev m hm a s l c
  refine ⟨K, fun k hk => ?_⟩
  have e1 := hK k hk
  dsimp only at e1 ⊢
  unfold findByte
  simp only [impl_FindByte.f, e1, Option.bind_some]
  by_cases h : (memOk m && winOn m a s l c) = true
  · obtain ⟨hok, hw⟩ := on_iff.mp h
    rw [if_pos h, if_pos h, seen_eq hok hw, Option.bind_some]
    unfold bytes_IndexByte.f
    rw [Option.bind_some, findIn_lib _ _ (fun y hy => by obtain ⟨r, hr', hy'⟩ := seen_mem hy; exact hr r hr' y hy') hx]
  · rw [if_neg h, if_neg h]
end Go.Proofs.Ythomfanpdnpmaaa.P
