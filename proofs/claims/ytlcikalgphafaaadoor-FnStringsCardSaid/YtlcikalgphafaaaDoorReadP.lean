/- Plain lemmas: the number of a text, both ways. No program, no memory. -/
import Derived.Test.YtlcikalgphafaaaDoorPx17
import Derived.Test.YtlcikalgphafaaaDoorNumP
import Derived.Test.YtlcikalgphafaaaDoorParseI
import Derived.Test.YtlcikalgphafaaaDoorStrQ
import Derived.Test.YtlcikalgphafaaaDoorBase
namespace Go.Proofs.YtlcikalgphafaaaDoor.P
open Go.RowKit Go.Proofs.YtlcikalgphafaaaDoorW.PrintWords Go.Proofs.YtlcikalgphafaaaDoorW.PrintLast Go.Proofs.YtlcikalgphafaaaDoorW.PrintMore
set_option linter.unusedVariables false
set_option linter.unusedSimpArgs false
theorem dv_some {b : UInt8} {d : Nat} (h : Lib.digitVal b = some d) : 48 ≤ b.toNat ∧ b.toNat ≤ 57 ∧ d = b.toNat - 48 := by
  unfold Lib.digitVal at h
  by_cases h1 : 48 ≤ b.toNat ∧ b.toNat ≤ 57
  · rw [if_pos h1] at h; exact ⟨h1.1, h1.2, (Option.some.inj h).symm⟩
  · rw [if_neg h1] at h; cases h
theorem dv_none {b : UInt8} (h : ¬ (48 ≤ b.toNat ∧ b.toNat ≤ 57)) : Lib.digitVal b = none := by unfold Lib.digitVal; rw [if_neg h]
theorem df_none {b : UInt8} {l : List UInt8} (a : Nat) (h : ¬ (48 ≤ b.toNat ∧ b.toNat ≤ 57)) : Lib.decFrom a (b :: l) = none := by rw [Lib.decFrom, dv_none h]
theorem df_some {b : UInt8} {l : List UInt8} (a : Nat) (h : 48 ≤ b.toNat ∧ b.toNat ≤ 57) : Lib.decFrom a (b :: l) = Lib.decFrom (a * 10 + (b.toNat - 48)) l := by
  rw [Lib.decFrom, show Lib.digitVal b = some (b.toNat - 48) from by unfold Lib.digitVal; rw [if_pos h]]
theorem dec_bound : ∀ (l : List UInt8) (a m : Nat), Lib.decFrom a l = some m → m < (a + 1) * 10 ^ l.length
  | [], a, m, h => by
    obtain rfl : a = m := Option.some.inj h
    simp
  | b :: l, a, m, h => by
    by_cases hb : 48 ≤ b.toNat ∧ b.toNat ≤ 57
    · rw [df_some a hb] at h
      have ih := dec_bound l _ m h
      have h2 : (a * 10 + (b.toNat - 48) + 1) * 10 ^ l.length ≤ ((a + 1) * 10) * 10 ^ l.length := Nat.mul_le_mul_right _ (by omega)
      have h3 : ((a + 1) * 10) * 10 ^ l.length = (a + 1) * 10 ^ (l.length + 1) := by rw [Nat.pow_succ, Nat.mul_assoc, Nat.mul_comm 10]
      rw [List.length_cons]
      omega
    · rw [df_none a hb] at h; cases h
def fin (s : ByteArray) (v : Int) : Int × Bool := if itoaB v = s then (v, true) else (0, false)
def finO (s t : ByteArray) : Option Nat → Int × Bool
  | none => (0, false)
  | some m => fin s (if t.size < s.size then -(m : Int) else (m : Int))
theorem read_l0 (s t : ByteArray) (ht : t.size ≤ 6) (d : Nat) : ∀ (i a : Nat), i + d = t.data.toList.length → a < 10 ^ i →
    Ev (fun k => spec_l1Read.l0 k s t (a : Int) (i : Int)) (finO s t (Lib.decFrom a (t.data.toList.drop i))) := by
  have hs := size_list t
  induction d with
  | zero =>
    intro i a hi ha
    have h6 : 10 ^ i ≤ 10 ^ 6 := Nat.pow_le_pow_right (by omega) (by omega)
    rw [List.drop_eq_nil_of_le (by omega), show Lib.decFrom a [] = some a from rfl]
    show Ev _ (fin s (if t.size < s.size then -(a : Int) else (a : Int)))
    by_cases hz : t.size < s.size
    · rw [if_pos hz]
      obtain ⟨K, hK⟩ := num_ev (-(a : Int)) (by omega) (by omega)
      refine ⟨K + 1, fun k hk => ?_⟩
      obtain ⟨k, rfl⟩ : ∃ j, k = j + 1 := ⟨k - 1, by omega⟩
      have e := hK k (by omega)
      dsimp only at e ⊢
      rw [spec_l1Read.l0, if_neg (by omega), if_pos (by omega), wrap_in (x := -(a : Int)) (by omega) (by omega), e, Option.bind_some]
      unfold fin
      by_cases h7 : itoaB (-(a : Int)) = s
      · rw [if_pos (tl_inj.mpr h7), if_pos h7]
      · rw [if_neg (fun q => h7 (tl_inj.mp q)), if_neg h7]
    · rw [if_neg hz]
      obtain ⟨K, hK⟩ := num_ev (a : Int) (by omega) (by omega)
      refine ⟨K + 1, fun k hk => ?_⟩
      obtain ⟨k, rfl⟩ : ∃ j, k = j + 1 := ⟨k - 1, by omega⟩
      have e := hK k (by omega)
      dsimp only at e ⊢
      rw [spec_l1Read.l0, if_neg (by omega), if_neg (by omega), e, Option.bind_some]
      unfold fin
      by_cases h7 : itoaB (a : Int) = s
      · rw [if_pos (tl_inj.mpr h7), if_pos h7]
      · rw [if_neg (fun q => h7 (tl_inj.mp q)), if_neg h7]
  | succ d ih =>
    intro i a hi ha
    have hlt : i < t.data.toList.length := by omega
    have h6 : 10 ^ i ≤ 10 ^ 6 := Nat.pow_le_pow_right (by omega) (by omega)
    have hb := bt_get t i hlt
    have hb2 : (t.data.toList[i]).toNat < 256 := UInt8.toNat_lt _
    rw [List.drop_eq_getElem_cons hlt]
    by_cases hd : 48 ≤ (t.data.toList[i]).toNat ∧ (t.data.toList[i]).toNat ≤ 57
    · rw [df_some a hd]
      refine Ev.step (fun k => ?_) (ih (i + 1) (a * 10 + ((t.data.toList[i]).toNat - 48)) (by omega) (by rw [Nat.pow_succ]; omega))
      rw [spec_l1Read.l0, if_pos (by omega), if_pos (by omega), hb, if_neg (by omega), if_neg (by omega), wrap_in (x := 10 * (a : Int)) (by omega) (by omega), wrap_in (by omega) (by omega), wrap_succ i (by omega), show 10 * (a : Int) + (((t.data.toList[i]).toNat : Int) - 48) % 256 = ((a * 10 + ((t.data.toList[i]).toNat - 48) : Nat) : Int) by omega]
    · rw [df_none a hd]
      refine Ev.end_ (fun k => ?_)
      rw [spec_l1Read.l0, if_pos (by omega), if_pos (by omega), hb]
      by_cases h1 : (t.data.toList[i]).toNat < 48
      · rw [if_pos (by omega)]; rfl
      · rw [if_neg (by omega), if_pos (by omega)]; rfl
def readT (s t : ByteArray) : Int × Bool := if 1 ≤ t.size ∧ t.size ≤ 6 then finO s t (Lib.decFrom 0 t.data.toList) else (0, false)
theorem read_j1 (s t : ByteArray) : Ev (fun k => spec_l1Read.j1 k s t) (readT s t) := by
  unfold readT
  by_cases h : 1 ≤ t.size ∧ t.size ≤ 6
  · rw [if_pos h]
    have h2 := read_l0 s t h.2 t.data.toList.length 0 0 (by omega) (by decide)
    refine Ev.step (fun k => ?_) h2
    rw [spec_l1Read.j1, l1In_eq, Option.bind_some, if_pos (inB_iff.mpr (by omega))]; rfl
  · rw [if_neg h]
    refine Ev.end_ (fun k => ?_)
    rw [spec_l1Read.j1, l1In_eq, Option.bind_some, if_neg (fun q => h (by have := inB_iff.mp q; omega))]
def isNeg (s : ByteArray) : Bool := decide (1 < s.size) && (bt s 0 == 45)
theorem read_ev (s : ByteArray) : Ev (fun k => spec_l1Read.f k s) (if isNeg s = true then readT s (s.extract 1 s.size) else readT s s) := by
  unfold isNeg
  by_cases h1 : 1 < s.size
  · by_cases h2 : (bt s 0 == 45) = true
    · rw [if_pos (by rw [h2, decide_eq_true h1]; rfl)]
      obtain ⟨K, hK⟩ := read_j1 s (s.extract 1 s.size)
      refine ⟨K + 1, fun k hk => ?_⟩
      obtain ⟨k, rfl⟩ : ∃ j, k = j + 1 := ⟨k - 1, by omega⟩
      have e := hK k (by omega)
      dsimp only at e ⊢
      rw [spec_l1Read.f, if_pos (by omega), if_pos (by omega), spec_l1Read.j0, if_pos h2, if_pos (by omega), e]
    · rw [if_neg (by rw [decide_eq_true h1, Bool.true_and]; exact h2)]
      obtain ⟨K, hK⟩ := read_j1 s s
      refine ⟨K + 1, fun k hk => ?_⟩
      obtain ⟨k, rfl⟩ : ∃ j, k = j + 1 := ⟨k - 1, by omega⟩
      have e := hK k (by omega)
      dsimp only at e ⊢
      rw [spec_l1Read.f, if_pos (by omega), if_pos (by omega), spec_l1Read.j0, if_neg h2, e]
  · rw [if_neg (by rw [decide_eq_false h1, Bool.false_and]; exact Bool.false_ne_true)]
    obtain ⟨K, hK⟩ := read_j1 s s
    refine ⟨K + 1, fun k hk => ?_⟩
    obtain ⟨k, rfl⟩ : ∃ j, k = j + 1 := ⟨k - 1, by omega⟩
    have e := hK k (by omega)
    dsimp only at e ⊢
    rw [spec_l1Read.f, if_neg (by omega), spec_l1Read.j0, if_neg (by decide), e]
theorem dd_dig : ∀ (u : Nat), ∀ x ∈ Lib.decDigits u, 48 ≤ x.toNat := by
  intro u
  induction u using Nat.strongRecOn with
  | _ u ih =>
    intro x hx
    have hd : ∀ k, k < 10 → 48 ≤ (UInt8.ofNat (48 + k)).toNat := fun k hk => by
      rw [UInt8.toNat_ofNat']; omega
    by_cases h : u < 10
    · rw [dd_small h] at hx
      obtain rfl := List.mem_singleton.1 hx
      exact hd u h
    · rw [dd_big h] at hx
      rcases List.mem_append.1 hx with hx | hx
      · exact ih (u / 10) (by omega) x hx
      · obtain rfl := List.mem_singleton.1 hx
        exact hd _ (by omega)
theorem itoa_nat (m : Nat) : Lib.itoa (m : Int) = Lib.decDigits m := by unfold Lib.itoa; rw [if_neg (by omega), Int.toNat_natCast]
theorem readT_eq (s t : ByteArray) (h : 1 ≤ t.size ∧ t.size ≤ 6) {o : Option Nat} (ho : Lib.decFrom 0 t.data.toList = o) : readT s t = finO s t o := by unfold readT; rw [if_pos h, ho]
theorem fin_eq (s : ByteArray) (v : Int) : (if itoaB v = s then (v, true) else ((0 : Int), false)) = fin s v := rfl
theorem parse_read (s : ByteArray) : parseR s = if isNeg s = true then readT s (s.extract 1 s.size) else readT s s := by
  have hs := size_list s
  rcases hl : s.data.toList with _ | ⟨b, r⟩
  · rw [hl] at hs
    have h0 : s.size = 0 := hs
    have hn : isNeg s = false := by unfold isNeg; rw [decide_eq_false (by omega), Bool.false_and]
    rw [hn, if_neg Bool.false_ne_true]
    unfold parseR readT
    rw [if_neg (by omega), hl, show Lib.atoi [] = none from rfl, if_neg (by omega)]
  · rw [hl, List.length_cons] at hs
    have hb0 : bt s 0 = (b.toNat : Int) := by
      have := bt_get s 0 (by rw [hl]; simp)
      simp only [hl, List.getElem_cons_zero] at this
      exact this
    by_cases h45 : b = 45
    · have hsat : Lib.atoi (b :: r) = (Lib.decNat r).map fun (m : Nat) => -(m : Int) := by
        rw [Lib.atoi, if_pos (by simpa using h45)]
      by_cases hr : r = []
      · subst hr
        have h1 : s.size = 1 := hs
        have hn : isNeg s = false := by unfold isNeg; rw [decide_eq_false (by omega), Bool.false_and]
        rw [hn, if_neg Bool.false_ne_true, readT_eq s s (by omega) (o := none) (by rw [hl]; exact df_none 0 (by subst h45; decide))]
        unfold parseR
        rw [if_neg (by omega), hl, hsat, show Lib.decNat [] = none from rfl]
        rfl
      · have hrl : 1 ≤ r.length := by
          cases r with
          | nil => exact absurd rfl hr
          | cons x xs => simp
        have hn : isNeg s = true := by
          unfold isNeg
          rw [decide_eq_true (by omega), hb0, h45]; rfl
        have ht : (s.extract 1 s.size).data.toList = r := by
          simp only [ByteArray.data_extract, Array.toList_extract, List.extract_eq_take_drop]
          rw [hl, List.drop_succ_cons, List.drop_zero, List.take_of_length_le (by omega)]
        have htz : (s.extract 1 s.size).size = r.length := by rw [size_list, ht]
        rw [hn, if_pos rfl]
        unfold parseR
        rw [hl, hsat, show Lib.decNat r = Lib.decFrom 0 r from by unfold Lib.decNat; rw [if_neg (by simpa using hr)]]
        by_cases h7 : 7 < s.size
        · rw [if_pos h7]; unfold readT; rw [if_neg (by omega)]
        · rw [if_neg h7]
          cases hd : Lib.decFrom 0 r with
          | none => rw [readT_eq s _ (by omega) (o := none) (by rw [ht, hd])]; rfl
          | some m =>
            have hbd := dec_bound r 0 m hd
            have h6 : 10 ^ r.length ≤ 10 ^ 6 := Nat.pow_le_pow_right (by omega) (by omega)
            rw [readT_eq s _ (by omega) (o := some m) (by rw [ht, hd])]
            show (if inB (-(m : Int)) (-999999) 999999 = true then (if itoaB (-(m : Int)) = s then (-(m : Int), true) else (0, false)) else (0, false)) = fin s (if (s.extract 1 s.size).size < s.size then -(m : Int) else (m : Int))
            rw [if_pos (inB_iff.mpr (by omega)), if_pos (show (s.extract 1 s.size).size < s.size from by omega)]; rfl
    · have hn : isNeg s = false := by
        unfold isNeg
        rw [hb0, show ((b.toNat : Int) == 45) = false from beq_eq_false_iff_ne.mpr (fun q => h45 (UInt8.toNat_inj.mp (by show b.toNat = 45; omega))), Bool.and_false]
      rw [hn, if_neg Bool.false_ne_true]
      have hself : ¬ s.size < s.size := Nat.lt_irrefl _
      by_cases h43 : b = 43
      · have hsat : Lib.atoi (b :: r) = (Lib.decNat r).map fun (m : Nat) => (m : Int) := by
          rw [Lib.atoi, if_neg (by simpa using h45), if_pos (by simpa using h43)]
        have hR : readT s s = (0, false) := by
          unfold readT
          rw [hl, df_none 0 (by subst h43; decide)]
          by_cases h : 1 ≤ s.size ∧ s.size ≤ 6
          · rw [if_pos h]; rfl
          · rw [if_neg h]
        rw [hR]
        unfold parseR
        rw [hl, hsat]
        by_cases h7 : 7 < s.size
        · rw [if_pos h7]
        · rw [if_neg h7]
          cases hd : Lib.decNat r with
          | none => rfl
          | some m =>
            show (if inB (m : Int) (-999999) 999999 = true then (if itoaB (m : Int) = s then ((m : Int), true) else (0, false)) else (0, false)) = (0, false)
            have hne : ¬ itoaB (m : Int) = s := fun q => by
              have q2 : Lib.decDigits m = b :: r := by
                rw [← hl, ← q, ← itoa_nat]; rfl
              have := dd_dig m b (by rw [q2]; exact List.mem_cons_self)
              subst h43
              exact absurd this (by decide)
            rw [if_neg hne]
            by_cases h8 : inB (m : Int) (-999999) 999999 = true
            · rw [if_pos h8]
            · rw [if_neg h8]
      · have hsat : Lib.atoi (b :: r) = (Lib.decFrom 0 (b :: r)).map fun (m : Nat) => (m : Int) := by
          rw [Lib.atoi, if_neg (by simpa using h45), if_neg (by simpa using h43)]; rfl
        unfold parseR
        rw [hl, hsat]
        by_cases h7 : 7 < s.size
        · rw [if_pos h7]; unfold readT; rw [if_neg (by omega)]
        · rw [if_neg h7]
          cases hd : Lib.decFrom 0 (b :: r) with
          | none =>
            unfold readT
            rw [hl, hd]
            by_cases h : 1 ≤ s.size ∧ s.size ≤ 6
            · rw [if_pos h]; rfl
            · rw [if_neg h]; rfl
          | some m =>
            show (if inB (m : Int) (-999999) 999999 = true then (if itoaB (m : Int) = s then ((m : Int), true) else (0, false)) else (0, false)) = readT s s
            by_cases h6 : s.size ≤ 6
            · have hbd := dec_bound (b :: r) 0 m hd
              have h6' : 10 ^ (b :: r).length ≤ 10 ^ 6 := Nat.pow_le_pow_right (by omega) (by simp only [List.length_cons]; omega)
              rw [readT_eq s s (by omega) (o := some m) (by rw [hl, hd]), if_pos (inB_iff.mpr (by omega))]
              show _ = fin s (if s.size < s.size then -(m : Int) else (m : Int))
              rw [if_neg hself]; rfl
            · unfold readT
              rw [if_neg (show ¬ (1 ≤ s.size ∧ s.size ≤ 6) from fun q => h6 q.2)]
              by_cases h8 : inB (m : Int) (-999999) 999999 = true
              · have h9 := inB_iff.mp h8
                have hlen := dd_len 5 m (by omega)
                have hne : ¬ itoaB (m : Int) = s := fun q => by
                  have q2 : Lib.decDigits m = b :: r := by
                    rw [← hl, ← q, ← itoa_nat]; rfl
                  rw [q2, List.length_cons] at hlen
                  omega
                rw [if_pos h8, if_neg hne]
              · rw [if_neg h8]
end Go.Proofs.YtlcikalgphafaaaDoor.P
