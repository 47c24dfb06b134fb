/- Plain lemmas: the reference's text of a number is the library's decimal numeral; how long it is. No program, no memory. -/
import Derived.Test.YtlcikalgphafaaaDoorPx15
import Derived.Test.YtlcikalgphafaaaDoorBase
import Derived.Test.YtlcikalgphafaaaDoorDoorF
import Derived.Test.YtlcikalgphafaaaDoorTexts
import Derived.Test.YtlcikalgphafaaaDoorStrQ
namespace Go.Proofs.YtlcikalgphafaaaDoor.P
open Go.RowKit Go.Proofs.YtlcikalgphafaaaDoorW.PrintWords Go.Proofs.YtlcikalgphafaaaDoorW.PrintLast Go.Proofs.YtlcikalgphafaaaDoorW.PrintMore
set_option linter.unusedVariables false
set_option linter.unusedSimpArgs false
theorem dd_small {u : Nat} (h : u < 10) : Lib.decDigits u = [UInt8.ofNat (48 + u)] := by rw [Lib.decDigits, dif_pos h]
theorem dd_big {u : Nat} (h : ¬ u < 10) : Lib.decDigits u = Lib.decDigits (u / 10) ++ [UInt8.ofNat (48 + u % 10)] := by rw [Lib.decDigits, dif_neg h]
theorem dd_len : ∀ (k u : Nat), u < 10 ^ (k + 1) → (Lib.decDigits u).length ≤ k + 1
  | 0, u, h => by rw [dd_small (by simpa using h)]; simp
  | k + 1, u, h => by
    by_cases h1 : u < 10
    · rw [dd_small h1]; simp
    · have := dd_len k (u / 10) (by rw [Nat.pow_succ] at h; omega)
      rw [dd_big h1, List.length_append]
      simp only [List.length_cons, List.length_nil]
      omega
theorem dd_pos (u : Nat) : 1 ≤ (Lib.decDigits u).length := by
  by_cases h1 : u < 10
  · rw [dd_small h1]; simp
  · rw [dd_big h1]; simp
theorem itoa_len (n : Int) (h0 : -9223372036854775808 ≤ n) (h1 : n ≤ 9223372036854775807) : (Lib.itoa n).length ≤ 20 := by
  unfold Lib.itoa
  by_cases h : n < 0
  · rw [if_pos h]
    have := dd_len 18 n.natAbs (by omega)
    simp only [List.length_cons]
    omega
  · rw [if_neg h]
    have := dd_len 18 n.toNat (by omega)
    omega
def itoaB (n : Int) : ByteArray := ⟨(Lib.itoa n).toArray⟩
theorem itoaB_size (n : Int) (h0 : -9223372036854775808 ≤ n) (h1 : n ≤ 9223372036854775807) : (itoaB n).size ≤ 20 := by
  rw [size_list]
  exact itoa_len n h0 h1
theorem ex_dig (n : Nat) (h : n < 10) : (⟨#[48, 49, 50, 51, 52, 53, 54, 55, 56, 57]⟩ : ByteArray).extract n (n + 1) = ⟨#[UInt8.ofNat (48 + n)]⟩ := by
  have h2 : ∀ k : Fin 10, ((⟨#[48, 49, 50, 51, 52, 53, 54, 55, 56, 57]⟩ : ByteArray).extract k.val (k.val + 1)).data.toList = [UInt8.ofNat (48 + k.val)] := by decide +kernel
  exact ba_ext (h2 ⟨n, h⟩)
theorem dd_ba (u : Nat) (h : ¬ u < 10) : (⟨(Lib.decDigits (u / 10)).toArray⟩ : ByteArray) ++ (⟨#[UInt8.ofNat (48 + u % 10)]⟩ : ByteArray) = ⟨(Lib.decDigits u).toArray⟩ := by
  apply ba_ext
  rw [app_list, dd_big h]
theorem sz_dd (u : Nat) : (⟨(Lib.decDigits u).toArray⟩ : ByteArray).size = (Lib.decDigits u).length := by rw [size_list]
theorem num_nat : ∀ (m u : Nat), u ≤ m → u ≤ 9223372036854775808 → Ev (fun k => spec_l1Num.f k (u : Int)) (⟨(Lib.decDigits u).toArray⟩ : ByteArray) := by
  intro m
  induction m with
  | zero =>
    intro u h h2
    obtain rfl : u = 0 := by omega
    refine Ev.end_ (fun k => ?_)
    rw [spec_l1Num.f, if_neg (by omega), if_pos (by omega), if_pos (by omega), show wrap64 (((0 : Nat) : Int) + 1) = ((0 + 1 : Nat) : Int) from wrap_succ 0 (by omega), if_pos (by omega), if_pos (by omega), Int.toNat_natCast, Int.toNat_natCast, ex_dig 0 (by omega), dd_small (by omega)]
  | succ m ih =>
    intro u h h2
    by_cases h1 : u < 10
    · refine Ev.end_ (fun k => ?_)
      rw [spec_l1Num.f, if_neg (by omega), if_pos (by omega), if_pos (by omega), wrap_succ u (by omega), if_pos (by omega), if_pos (by omega), Int.toNat_natCast, Int.toNat_natCast, ex_dig u h1, dd_small h1]
    · obtain ⟨K, hK⟩ := ih (u / 10) (by omega) (by omega)
      refine ⟨K + 1, fun k hk => ?_⟩
      obtain ⟨k, rfl⟩ : ∃ j, k = j + 1 := ⟨k - 1, by omega⟩
      have e := hK k (by omega)
      have hl := dd_len 18 (u / 10) (by omega)
      have ht : Int.tdiv (u : Int) 10 = ((u / 10 : Nat) : Int) := by rw [Int.tdiv_eq_ediv_of_nonneg (by omega)]; omega
      have ht2 : Int.tmod (u : Int) 10 = ((u % 10 : Nat) : Int) := by rw [Int.tmod_eq_emod_of_nonneg (by omega)]; omega
      dsimp only at e ⊢
      rw [spec_l1Num.f, if_neg (by omega), if_neg (by omega), ht, wrap_in (x := ((u / 10 : Nat) : Int)) (by omega) (by omega), e, Option.bind_some, ht2, if_pos (by omega), wrap_succ (u % 10) (by omega), if_pos (by omega), if_pos (by omega), Int.toNat_natCast, Int.toNat_natCast, ex_dig (u % 10) (by omega), dd_ba u h1, sz_dd, if_pos (by show _ + 1 ≤ _; omega)]
theorem neg_ba (l : List UInt8) : (⟨#[45]⟩ : ByteArray) ++ (⟨l.toArray⟩ : ByteArray) = ⟨(45 :: l).toArray⟩ := by
  apply ba_ext
  rw [app_list]
  rfl
theorem num_neg : ∀ (m u : Nat), u ≤ m → 1 ≤ u → u ≤ 9223372036854775808 → Ev (fun k => spec_l1Num.f k (-(u : Int))) (⟨(45 :: Lib.decDigits u).toArray⟩ : ByteArray) := by
  intro m
  induction m with
  | zero => intro u h h1; omega
  | succ m ih =>
    intro u h h1 h2
    by_cases h3 : u < 10
    · obtain ⟨K, hK⟩ := num_nat u u (Nat.le_refl _) (by omega)
      refine ⟨K + 1, fun k hk => ?_⟩
      obtain ⟨k, rfl⟩ : ∃ j, k = j + 1 := ⟨k - 1, by omega⟩
      have e := hK k (by omega)
      dsimp only at e ⊢
      rw [spec_l1Num.f, if_pos (by omega), if_pos (by omega), wrap_in (x := - -(u : Int)) (by omega) (by omega), Int.neg_neg, e, Option.bind_some, sz_dd, dd_small h3, if_pos (by simp), neg_ba]
    · obtain ⟨K, hK⟩ := ih (u / 10) (by omega) (by omega) (by omega)
      obtain ⟨K2, hK2⟩ := num_nat (u % 10) (u % 10) (Nat.le_refl _) (by omega)
      refine ⟨K + K2 + 1, fun k hk => ?_⟩
      obtain ⟨k, rfl⟩ : ∃ j, k = j + 1 := ⟨k - 1, by omega⟩
      have e := hK k (by omega)
      have e2 := hK2 k (by omega)
      have hl := dd_len 18 (u / 10) (by omega)
      have ht : Int.tdiv (-(u : Int)) 10 = -((u / 10 : Nat) : Int) := by rw [Int.neg_tdiv, Int.tdiv_eq_ediv_of_nonneg (by omega)]; omega
      have ht2 : Int.tmod (-(u : Int)) 10 = -((u % 10 : Nat) : Int) := by rw [Int.neg_tmod, Int.tmod_eq_emod_of_nonneg (by omega)]; omega
      dsimp only at e e2 ⊢
      rw [spec_l1Num.f, if_pos (by omega), if_neg (by omega), ht, wrap_in (x := -((u / 10 : Nat) : Int)) (by omega) (by omega), e, Option.bind_some, ht2, wrap_in (x := - -((u % 10 : Nat) : Int)) (by omega) (by omega), Int.neg_neg, e2, Option.bind_some, sz_dd, dd_small (u := u % 10) (by omega), if_pos (by rw [size_list]; simp only [List.length_cons, List.length_nil]; omega)]
      refine congrArg some (ba_ext ?_)
      rw [app_list, dd_big h3]
      simp
theorem num_ev (n : Int) (h0 : -9223372036854775808 ≤ n) (h1 : n ≤ 9223372036854775807) : Ev (fun k => spec_l1Num.f k n) (itoaB n) := by
  unfold itoaB Lib.itoa
  by_cases h : n < 0
  · rw [if_pos h]
    have := num_neg n.natAbs n.natAbs (Nat.le_refl _) (by omega) (by omega)
    rwa [show -((n.natAbs : Nat) : Int) = n by omega] at this
  · rw [if_neg h]
    have := num_nat n.toNat n.toNat (Nat.le_refl _) (by omega)
    rwa [show ((n.toNat : Nat) : Int) = n by omega] at this
theorem itoa_eq (n : Int) (h0 : -9223372036854775808 ≤ n) (h1 : n ≤ 9223372036854775807) : strconv_Itoa_54.f n = some (itoaB n) := by
  unfold strconv_Itoa_54.f
  rw [if_pos ⟨h0, h1⟩]; rfl
end Go.Proofs.YtlcikalgphafaaaDoor.P
