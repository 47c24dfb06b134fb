/- Plain lemmas: OrderOf and SameBytes in both programs. -/
import Derived.Test.YtdgbojaihhknaaaSeen
import Derived.Test.YtdgbojaihhknaaaOver
import Derived.Test.YtdgbojaihhknaaaPx12
import Derived.Test.YtdgbojaihhknaaaPx13
import Derived.Test.YtdgbojaihhknaaaPx15
import Derived.Test.YtdgbojaihhknaaaCmp
namespace Go.Proofs.Ytdgbojaihhknaaa.P
open Go.RowKit Go.Proofs.YtdgbojaihhknaaaW.PrintWords Go.Proofs.YtdgbojaihhknaaaW.PrintLast Go.Proofs.YtdgbojaihhknaaaW.PrintMore
set_option linter.unusedVariables false
set_option linter.unusedSimpArgs false
theorem rd_get {xs : List Int} {i : Nat} (h : i < xs.length) : rd xs (i : Int) = xs[i] := by
  unfold rd
  rw [Int.toNat_natCast, List.getD_eq_getElem?_getD, List.getElem?_eq_getElem h]; rfl
theorem l2Bytes_l0 (m : List (List Int)) (a s l c : Int) (hok : memOk m = true) (hw : winOn m a s l c = true) (d : Nat) : ∀ i : Nat, i + d = (seen m a s l).length →
    Ev (fun k => spec_l2Bytes.l0 k ((seen m a s l).take i) i m a s l c) (seen m a s l) := by
  have hb := win_sm hok hw
  have hl := seen_len hok hw
  unfold Sm at hb
  induction d with
  | zero =>
    intro i hi
    refine ⟨1, fun k hk => ?_⟩
    obtain ⟨k, rfl⟩ : ∃ j, k = j + 1 := ⟨k - 1, by omega⟩
    dsimp only
    unfold spec_l2Bytes.l0
    rw [if_neg (by omega), List.take_of_length_le (by omega)]
  | succ d ih =>
    intro i hi
    have hlt : i < (seen m a s l).length := by omega
    obtain ⟨K, hK⟩ := ih (i + 1) (by omega)
    refine ⟨K + 1, fun k hk => ?_⟩
    obtain ⟨k, rfl⟩ : ∃ j, k = j + 1 := ⟨k - 1, by omega⟩
    have e1 := hK k (by omega)
    dsimp only at e1 ⊢
    unfold spec_l2Bytes.l0
    rw [if_pos (by omega), at_eq hok hw (by omega) (by omega), Option.bind_some, rd_get hlt, if_pos (by rw [List.length_take]; omega), wrap_in (x := (i : Int) + 1) (by omega) (by omega)]
    rw [List.take_succ_eq_append_getElem hlt, show ((i + 1 : Nat) : Int) = (i : Int) + 1 by omega] at e1
    exact e1
theorem l2Bytes_ev {m : List (List Int)} {a s l c : Int} (hok : memOk m = true) (hw : winOn m a s l c = true) : Ev (fun k => spec_l2Bytes.f k m a s l c) (seen m a s l) := by
  have := l2Bytes_l0 m a s l c hok hw (seen m a s l).length 0 (by omega)
  exact this
/-- The order of two lists. -/
def cmpI : List Int → List Int → Int
  | [], [] => 0
  | [], _ :: _ => -1
  | _ :: _, [] => 1
  | x :: xs, y :: ys => if x < y then -1 else if y < x then 1 else cmpI xs ys
theorem cmpI_zero : ∀ (xs ys : List Int), cmpI xs ys = 0 ↔ xs = ys
  | [], [] => by simp [cmpI]
  | [], _ :: _ => by simp [cmpI]
  | _ :: _, [] => by simp [cmpI]
  | x :: xs, y :: ys => by
    have ih := cmpI_zero xs ys
    unfold cmpI
    by_cases h1 : x < y
    · rw [if_pos h1]
      constructor
      · intro h; omega
      · intro h; injection h with h2 h3; omega
    · rw [if_neg h1]
      by_cases h2 : y < x
      · rw [if_pos h2]
        constructor
        · intro h; omega
        · intro h; injection h with h2 h3; omega
      · rw [if_neg h2, ih]
        have e : x = y := by omega
        subst e
        constructor
        · intro h; rw [h]
        · intro h; injection h
theorem u8_lt {x y : Int} (hx : 0 ≤ x ∧ x < 256) (hy : 0 ≤ y ∧ y < 256) : UInt8.ofNat x.toNat < UInt8.ofNat y.toNat ↔ x < y := by
  rw [UInt8.lt_iff_toNat_lt]
  simp only [UInt8.toNat_ofNat']
  omega
theorem cmpI_lib : ∀ (xs ys : List Int), (∀ x ∈ xs, 0 ≤ x ∧ x < 256) → (∀ x ∈ ys, 0 ≤ x ∧ x < 256) → Lib.compareBytes (Lib.bytesOf xs) (Lib.bytesOf ys) = cmpI xs ys
  | [], [], _, _ => rfl
  | [], _ :: _, _, _ => rfl
  | _ :: _, [], _, _ => rfl
  | x :: xs, y :: ys, hx, hy => by
    have ih := cmpI_lib xs ys (fun z hz => hx z (List.mem_cons_of_mem _ hz)) (fun z hz => hy z (List.mem_cons_of_mem _ hz))
    have h0 := hx x List.mem_cons_self
    have h1 := hy y List.mem_cons_self
    have e2 : Lib.compareBytes (Lib.bytesOf (x :: xs)) (Lib.bytesOf (y :: ys)) = if UInt8.ofNat x.toNat < UInt8.ofNat y.toNat then -1 else if UInt8.ofNat y.toNat < UInt8.ofNat x.toNat then 1 else Lib.compareBytes (Lib.bytesOf xs) (Lib.bytesOf ys) := rfl
    rw [e2, ih, show cmpI (x :: xs) (y :: ys) = (if x < y then -1 else if y < x then 1 else cmpI xs ys) from rfl]
    simp only [u8_lt h0 h1, u8_lt h1 h0]
theorem bytes_inj : ∀ (xs ys : List Int), (∀ x ∈ xs, 0 ≤ x ∧ x < 256) → (∀ x ∈ ys, 0 ≤ x ∧ x < 256) → (Lib.bytesOf xs = Lib.bytesOf ys ↔ xs = ys)
  | [], [], _, _ => by simp [Lib.bytesOf]
  | [], _ :: _, _, _ => by simp [Lib.bytesOf]
  | _ :: _, [], _, _ => by simp [Lib.bytesOf]
  | x :: xs, y :: ys, hx, hy => by
    have ih := bytes_inj xs ys (fun z hz => hx z (List.mem_cons_of_mem _ hz)) (fun z hz => hy z (List.mem_cons_of_mem _ hz))
    have h0 := hx x List.mem_cons_self
    have h1 := hy y List.mem_cons_self
    have e : UInt8.ofNat x.toNat = UInt8.ofNat y.toNat ↔ x = y := by
      constructor
      · intro h
        have h2 := congrArg UInt8.toNat h
        simp only [UInt8.toNat_ofNat'] at h2
        omega
      · intro h; rw [h]
    have e2 : Lib.bytesOf (x :: xs) = UInt8.ofNat x.toNat :: Lib.bytesOf xs := rfl
    have e3 : Lib.bytesOf (y :: ys) = UInt8.ofNat y.toNat :: Lib.bytesOf ys := rfl
    rw [e2, e3, List.cons.injEq, List.cons.injEq, e, ih]
theorem l2Order_l0 (xs ys : List Int) (hx : xs.length ≤ 1000000) (hy : ys.length ≤ 1000000) (d : Nat) : ∀ i : Nat, i + d = xs.length → i ≤ ys.length →
    Ev (fun k => spec_l2Order.l0 k xs ys i) (cmpI (xs.drop i) (ys.drop i)) := by
  induction d with
  | zero =>
    intro i hi hi2
    refine ⟨2, fun k hk => ?_⟩
    obtain ⟨k, rfl⟩ : ∃ j, k = j + 1 + 1 := ⟨k - 2, by omega⟩
    dsimp only
    unfold spec_l2Order.l0
    rw [if_neg (by omega)]
    unfold spec_l2Order.j1
    rw [if_neg (by decide), List.drop_eq_nil_of_le (by omega)]
    by_cases h : xs.length < ys.length
    · rw [if_pos (by omega), List.drop_eq_getElem_cons (show i < ys.length by omega)]
      rfl
    · rw [if_neg (by omega), List.drop_eq_nil_of_le (show ys.length ≤ i by omega), wrap_in (x := (xs.length : Int) - ys.length) (by omega) (by omega), least_eq, Option.bind_some, show (xs.length : Int) - ys.length = 0 by omega]
      rfl
  | succ d ih =>
    intro i hi hi2
    have hlt : i < xs.length := by omega
    by_cases hlt2 : i < ys.length
    · obtain ⟨K, hK⟩ := ih (i + 1) (by omega) (by omega)
      refine ⟨K + 2, fun k hk => ?_⟩
      obtain ⟨k, rfl⟩ : ∃ j, k = j + 1 + 1 := ⟨k - 2, by omega⟩
      have e1 := hK k (by omega)
      dsimp only at e1 ⊢
      unfold spec_l2Order.l0
      rw [if_pos (by omega), decide_eq_true (show (i : Int) < ys.length by omega)]
      unfold spec_l2Order.j1
      rw [if_pos rfl, if_pos (by omega), if_pos (by omega), if_pos (by omega), rd_get hlt, rd_get hlt2, wrap_in (x := (i : Int) + 1) (by omega) (by omega), List.drop_eq_getElem_cons hlt, List.drop_eq_getElem_cons hlt2]
      rw [show cmpI (xs[i] :: xs.drop (i + 1)) (ys[i] :: ys.drop (i + 1)) = (if xs[i] < ys[i] then -1 else if ys[i] < xs[i] then 1 else cmpI (xs.drop (i + 1)) (ys.drop (i + 1))) from rfl]
      by_cases h1 : xs[i] < ys[i]
      · rw [if_pos h1, if_pos h1]
      · rw [if_neg h1, if_neg h1]
        by_cases h2 : ys[i] < xs[i]
        · rw [if_pos h2, if_pos h2]
        · rw [if_neg h2, if_neg h2]
          rw [show ((i + 1 : Nat) : Int) = (i : Int) + 1 by omega] at e1
          exact e1
    · refine ⟨2, fun k hk => ?_⟩
      obtain ⟨k, rfl⟩ : ∃ j, k = j + 1 + 1 := ⟨k - 2, by omega⟩
      dsimp only
      unfold spec_l2Order.l0
      rw [if_pos (by omega), decide_eq_false (show ¬ (i : Int) < ys.length by omega)]
      unfold spec_l2Order.j1
      rw [if_neg (by decide), if_neg (by omega), List.drop_eq_nil_of_le (show ys.length ≤ i by omega), List.drop_eq_getElem_cons hlt, wrap_in (x := (xs.length : Int) - ys.length) (by omega) (by omega), least_eq, Option.bind_some]
      unfold mn
      by_cases h1 : 1 < (xs.length : Int) - ys.length
      · rw [if_pos h1]; rfl
      · rw [if_neg h1, show (xs.length : Int) - ys.length = 1 by omega]; rfl
def orderOf (m : List (List Int)) (a s l c b t u d : Int) : Int × Bool := if both m a s l c b t u d = true then (cmpI (seen m a s l) (seen m b t u), true) else (0, false)
theorem both_iff {m : List (List Int)} {a s l c b t u d : Int} : both m a s l c b t u d = true ↔ memOk m = true ∧ winOn m a s l c = true ∧ winOn m b t u d = true := by unfold both; simp only [Bool.and_eq_true]
theorem orderOf_spec (m : List (List Int)) (hm : Fit m) (a s l c b t u d : Int) (hs : -9223372036854775808 ≤ s ∧ s ≤ 9223372036854775807) (ht : -9223372036854775808 ≤ t ∧ t ≤ 9223372036854775807) : Ev (fun k => spec_OrderOf.f k m a s l c b t u d) (orderOf m a s l c b t u d) := by
  obtain ⟨K, hK⟩ := l2Both_ev m hm a s l c b t u d hs ht
  by_cases h : both m a s l c b t u d = true
  · obtain ⟨hok, hw1, hw2⟩ := both_iff.mp h
    obtain ⟨K1, h1⟩ := l2Bytes_ev hok hw1
    obtain ⟨K2, h2⟩ := l2Bytes_ev hok hw2
    have q1 := seen_len hok hw1
    have q2 := seen_len hok hw2
    have b1 := win_sm hok hw1
    have b2 := win_sm hok hw2
    unfold Sm at b1 b2
    obtain ⟨K3, h3⟩ := l2Order_l0 (seen m a s l) (seen m b t u) (by omega) (by omega) (seen m a s l).length 0 (by omega) (by omega)
    refine ⟨K + K1 + K2 + K3, fun k hk => ?_⟩
    have e0 := hK k (by omega); have e1 := h1 k (by omega); have e2 := h2 k (by omega); have e3 := h3 k (by omega)
    dsimp only at e0 e1 e2 e3 ⊢
    unfold orderOf
    simp only [spec_OrderOf.f, e0, Option.bind_some]
    rw [if_pos h, if_pos h, e1, Option.bind_some, e2, Option.bind_some, show spec_l2Order.f k (seen m a s l) (seen m b t u) = spec_l2Order.l0 k (seen m a s l) (seen m b t u) ((0 : Nat) : Int) from rfl, e3, Option.bind_some]
    rfl
  · refine ⟨K, fun k hk => ?_⟩
    have e0 := hK k (by omega)
    dsimp only at e0 ⊢
    unfold orderOf
    simp only [spec_OrderOf.f, e0, Option.bind_some]
    rw [if_neg h, if_neg h]
theorem seen_u8 {m : List (List Int)} (hr : ∀ r ∈ m, ∀ x ∈ r, 0 ≤ x ∧ x < 256) (a s l : Int) : ∀ x ∈ seen m a s l, 0 ≤ x ∧ x < 256 := fun y hy => by
  obtain ⟨r, hr', hy'⟩ := seen_mem hy
  exact hr r hr' y hy'
theorem orderOf_impl (m : List (List Int)) (hm : Fit m) (hr : ∀ r ∈ m, ∀ x ∈ r, 0 ≤ x ∧ x < 256) (a s l c b t u d : Int) : Ev (fun k => impl_OrderOf.f k m a s l c b t u d) (orderOf m a s l c b t u d) := by
  obtain ⟨K, hK⟩ := areOn2_ev m hm a s l c b t u d
  refine ⟨K, fun k hk => ?_⟩
  have e1 := hK k hk
  dsimp only at e1 ⊢
  unfold orderOf
  simp only [impl_OrderOf.f, e1, Option.bind_some]
  by_cases h : both m a s l c b t u d = true
  · obtain ⟨hok, hw1, hw2⟩ := both_iff.mp h
    rw [if_pos h, if_pos h, seen_eq hok hw1, Option.bind_some, seen_eq hok hw2, Option.bind_some]
    unfold bytes_Compare.f
    rw [Option.bind_some, cmpI_lib _ _ (seen_u8 hr a s l) (seen_u8 hr b t u)]
  · rw [if_neg h, if_neg h]
def sameBytes (m : List (List Int)) (a s l c b t u d : Int) : Bool × Bool := if both m a s l c b t u d = true then (decide (seen m a s l = seen m b t u), true) else (false, false)
theorem sameBytes_spec (m : List (List Int)) (hm : Fit m) (a s l c b t u d : Int) (hs : -9223372036854775808 ≤ s ∧ s ≤ 9223372036854775807) (ht : -9223372036854775808 ≤ t ∧ t ≤ 9223372036854775807) : Ev (fun k => spec_SameBytes.f k m a s l c b t u d) (sameBytes m a s l c b t u d) := by
  obtain ⟨K, hK⟩ := orderOf_spec m hm a s l c b t u d hs ht
  refine ⟨K, fun k hk => ?_⟩
  have e1 := hK k hk
  dsimp only at e1 ⊢
  simp only [spec_SameBytes.f, e1, Option.bind_some]
  unfold sameBytes orderOf
  by_cases h : both m a s l c b t u d = true
  · rw [if_pos h, if_pos h, if_pos rfl]
    simp only [Option.some.injEq, Prod.mk.injEq, and_true]
    rw [Bool.eq_iff_iff]
    simp only [beq_iff_eq, decide_eq_true_eq]
    exact cmpI_zero _ _
  · rw [if_neg h, if_neg h, if_neg (by decide)]
theorem sameBytes_impl (m : List (List Int)) (hm : Fit m) (hr : ∀ r ∈ m, ∀ x ∈ r, 0 ≤ x ∧ x < 256) (a s l c b t u d : Int) : Ev (fun k => impl_SameBytes.f k m a s l c b t u d) (sameBytes m a s l c b t u d) := by
  obtain ⟨K, hK⟩ := areOn2_ev m hm a s l c b t u d
  refine ⟨K, fun k hk => ?_⟩
  have e1 := hK k hk
  dsimp only at e1 ⊢
  unfold sameBytes
  simp only [impl_SameBytes.f, e1, Option.bind_some]
  by_cases h : both m a s l c b t u d = true
  · obtain ⟨hok, hw1, hw2⟩ := both_iff.mp h
    rw [if_pos h, if_pos h, seen_eq hok hw1, Option.bind_some, seen_eq hok hw2, Option.bind_some]
    unfold bytes_Equal.f
    rw [Option.bind_some, Lib.strOfNums_toList, Lib.strOfNums_toList]
    simp only [Option.some.injEq, Prod.mk.injEq, and_true]
    rw [Bool.eq_iff_iff]
    simp only [beq_iff_eq, decide_eq_true_eq]
    exact bytes_inj _ _ (seen_u8 hr a s l) (seen_u8 hr b t u)
  · rw [if_neg h, if_neg h]
end Go.Proofs.Ytdgbojaihhknaaa.P
