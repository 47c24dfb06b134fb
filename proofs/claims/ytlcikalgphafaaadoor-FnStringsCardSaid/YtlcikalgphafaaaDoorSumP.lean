/- Plain lemmas: the checksum as a function; a changed byte changes it; digits tell their number. No program, no memory. -/
import Derived.Test.YtlcikalgphafaaaDoorSealP
import Derived.Test.YtlcikalgphafaaaDoorReadP
import Derived.Test.YtlcikalgphafaaaDoorSplitP
import Derived.Test.YtlcikalgphafaaaDoorPx19
namespace Go.Proofs.YtlcikalgphafaaaDoor.P
open Go.RowKit Go.Proofs.YtlcikalgphafaaaDoorW.PrintWords Go.Proofs.YtlcikalgphafaaaDoorW.PrintLast Go.Proofs.YtlcikalgphafaaaDoorW.PrintMore
set_option linter.unusedVariables false
set_option linter.unusedSimpArgs false
def sumL : Int → List UInt8 → Int
  | h, [] => h
  | h, b :: l => sumL ((41 * h + (b.toNat : Int) + 1) % 999979) l
theorem sumL_range : ∀ (l : List UInt8) (h : Int), 0 ≤ h → h < 999979 → 0 ≤ sumL h l ∧ sumL h l < 999979
  | [], h, h0, h1 => ⟨h0, h1⟩
  | b :: l, h, h0, h1 => sumL_range l _ (by omega) (by omega)
theorem sumV_l0 (x : ByteArray) (hx : x.size ≤ 1073741824) (d : Nat) : ∀ (i : Nat) (h : Int), i + d = x.data.toList.length → 0 ≤ h → h < 999979 →
    Ev (fun k => spec_l1Sum.l0 k x h (i : Int)) (sumL h (x.data.toList.drop i)) ∧ Ev (fun k => impl_checksum.l0 k x h (x.size : Int) (i : Int)) (sumL h (x.data.toList.drop i)) := by
  have hs := size_list x
  induction d with
  | zero =>
    intro i h hi h0 h1
    rw [List.drop_eq_nil_of_le (by omega)]
    exact ⟨Ev.end_ (fun k => by rw [spec_l1Sum.l0, if_neg (by omega)]; rfl), Ev.end_ (fun k => by rw [impl_checksum.l0, if_neg (by omega)]; rfl)⟩
  | succ d ih =>
    intro i h hi h0 h1
    have hlt : i < x.data.toList.length := by omega
    have hb := bt_get x i hlt
    have hb2 : (x.data.toList[i]).toNat < 256 := UInt8.toNat_lt _
    have hv : Int.tmod (wrap64 ((wrap64 ((wrap64 (41 * h)) + (wrap64 (bt x (i : Int))))) + 1)) 999979 = (41 * h + ((x.data.toList[i]).toNat : Int) + 1) % 999979 := by
      rw [hb, wrap_in (x := 41 * h) (by omega) (by omega), wrap_in (x := ((x.data.toList[i]).toNat : Int)) (by omega) (by omega), wrap_in (x := 41 * h + ((x.data.toList[i]).toNat : Int)) (by omega) (by omega), wrap_in (by omega) (by omega), Int.tmod_eq_emod_of_nonneg (by omega)]
    obtain ⟨r1, r2⟩ := ih (i + 1) ((41 * h + ((x.data.toList[i]).toNat : Int) + 1) % 999979) (by omega) (by omega) (by omega)
    rw [List.drop_eq_getElem_cons hlt]
    refine ⟨Ev.step (fun k => ?_) r1, Ev.step (fun k => ?_) r2⟩
    · rw [spec_l1Sum.l0, if_pos (by omega), if_pos (by omega), hv, wrap_succ i (by omega)]
    · rw [impl_checksum.l0, if_pos (by omega), if_pos (by omega), if_pos (by omega), hv, wrap_succ i (by omega)]
def sumB (x : ByteArray) : Int := sumL 7 x.data.toList
theorem sumB_range (x : ByteArray) : 0 ≤ sumB x ∧ sumB x < 999979 := sumL_range _ _ (by omega) (by omega)
theorem sumB_ev (x : ByteArray) (hx : x.size ≤ 1073741824) : Ev (fun k => spec_l1Sum.f k x) (sumB x) ∧ Ev (fun k => impl_checksum.f k x) (sumB x) :=
  sumV_l0 x hx x.data.toList.length 0 7 (by omega) (by omega) (by omega)
theorem step_inj (h1 h2 : Int) (c : Nat) (a0 : 0 ≤ h1) (a1 : h1 < 999979) (b0 : 0 ≤ h2) (b1 : h2 < 999979) (e : (41 * h1 + (c : Int) + 1) % 999979 = (41 * h2 + (c : Int) + 1) % 999979) : h1 = h2 := by omega
theorem sumL_inj : ∀ (l : List UInt8) (h1 h2 : Int), 0 ≤ h1 → h1 < 999979 → 0 ≤ h2 → h2 < 999979 → sumL h1 l = sumL h2 l → h1 = h2
  | [], _, _, _, _, _, _, e => e
  | b :: l, h1, h2, a0, a1, b0, b1, e => step_inj h1 h2 b.toNat a0 a1 b0 b1 (sumL_inj l _ _ (by omega) (by omega) (by omega) (by omega) e)
theorem sumL_set : ∀ (l : List UInt8) (q : Nat) (c : UInt8) (h : Int) (hq : q < l.length), c ≠ l[q] → 0 ≤ h → h < 999979 → sumL h (l.set q c) ≠ sumL h l
  | b :: l, 0, c, h, hq, hc, h0, h1, e => by
    have e2 := sumL_inj l _ _ (by omega) (by omega) (by omega) (by omega) e
    have k1 := UInt8.toNat_lt c
    have k2 := UInt8.toNat_lt b
    exact hc (UInt8.toNat_inj.mp (by show c.toNat = b.toNat; omega))
  | b :: l, q + 1, c, h, hq, hc, h0, h1, e => sumL_set l q c _ (by simpa using hq) (by simpa using hc) (by omega) (by omega) e
theorem df_snoc : ∀ (l : List UInt8) (a m d : Nat) (b : UInt8), Lib.decFrom a l = some m → 48 ≤ b.toNat ∧ b.toNat ≤ 57 → d = b.toNat - 48 → Lib.decFrom a (l ++ [b]) = some (m * 10 + d)
  | [], a, m, d, b, h, hb, hd => by
    obtain rfl : a = m := Option.some.inj h
    rw [List.nil_append, df_some a hb, hd]; rfl
  | x :: l, a, m, d, b, h, hb, hd => by
    by_cases hx : 48 ≤ x.toNat ∧ x.toNat ≤ 57
    · rw [df_some a hx] at h
      rw [List.cons_append, df_some a hx]
      exact df_snoc l _ m d b h hb hd
    · rw [df_none a hx] at h; cases h
theorem df_digits (u : Nat) : Lib.decFrom 0 (Lib.decDigits u) = some u := by
  induction u using Nat.strongRecOn with
  | _ u ih =>
    have hd : ∀ k, k < 10 → (UInt8.ofNat (48 + k)).toNat = 48 + k := fun k hk => by rw [UInt8.toNat_ofNat']; omega
    by_cases h : u < 10
    · have e := hd u h
      rw [dd_small h, df_some 0 (by omega), show Lib.decFrom (0 * 10 + ((UInt8.ofNat (48 + u)).toNat - 48)) [] = some (0 * 10 + ((UInt8.ofNat (48 + u)).toNat - 48)) from rfl]
      exact congrArg some (by omega)
    · have e := hd (u % 10) (by omega)
      rw [dd_big h, df_snoc _ 0 (u / 10) (u % 10) _ (ih (u / 10) (by omega)) (by omega) (by omega)]
      exact congrArg some (by omega)
theorem digits_inj {u v : Nat} (h : Lib.decDigits u = Lib.decDigits v) : u = v := by
  have h1 := df_digits u
  rw [h, df_digits v] at h1
  exact (Option.some.inj h1).symm
theorem parse_itoa (n : Int) (h0 : -999999 ≤ n) (h1 : n ≤ 999999) : parseR (itoaB n) = (n, true) := by
  have hat : Lib.atoi (Lib.itoa n) = some n := by
    unfold Lib.itoa
    by_cases h : n < 0
    · have hne : (Lib.decDigits n.natAbs).isEmpty = false := by
        have := dd_pos n.natAbs
        cases hd : Lib.decDigits n.natAbs with
        | nil => rw [hd] at this; simp at this
        | cons a b => rfl
      rw [if_pos h, Lib.atoi, if_pos (by decide)]
      unfold Lib.decNat
      rw [hne, if_neg Bool.false_ne_true, df_digits, Option.map_some]
      exact congrArg some (by omega)
    · rw [if_neg h]
      cases hd : Lib.decDigits n.toNat with
      | nil =>
        have := dd_pos n.toNat
        rw [hd] at this; simp at this
      | cons b r =>
        have hb := dd_dig n.toNat b (by rw [hd]; exact List.mem_cons_self)
        have e45 : ¬ (b == 45) = true := fun q => by
          have := beq_iff_eq.1 q
          subst this; exact absurd hb (by decide)
        have e43 : ¬ (b == 43) = true := fun q => by
          have := beq_iff_eq.1 q
          subst this; exact absurd hb (by decide)
        rw [Lib.atoi, if_neg e45, if_neg e43]
        have h2 := df_digits n.toNat
        rw [hd] at h2
        show (Lib.decFrom 0 (b :: r)).map _ = _
        rw [h2, Option.map_some]
        exact congrArg some (by omega)
  have hsz : (itoaB n).size ≤ 7 := by
    rw [size_list]
    show (Lib.itoa n).length ≤ 7
    unfold Lib.itoa
    by_cases h : n < 0
    · rw [if_pos h]
      have := dd_len 5 n.natAbs (by omega)
      simp only [List.length_cons]; omega
    · rw [if_neg h]
      have := dd_len 5 n.toNat (by omega)
      omega
  unfold parseR
  rw [if_neg (by omega), show (itoaB n).data.toList = Lib.itoa n from rfl, hat]
  show (if inB n (-999999) 999999 = true then (if itoaB n = itoaB n then (n, true) else (0, false)) else (0, false)) = (n, true)
  rw [if_pos (inB_iff.mpr ⟨h0, h1⟩), if_pos rfl]
/-- What verifying answers. -/
theorem ver_ev (s : ByteArray) (hs : s.size ≤ 1048576) (t : ByteArray) (ht : t = baOf (Lib.cut s.data.toList [35]).1) : Ev (fun k => impl_VerifyChecksum.f k s) (if sealR t (sumB t) = s ∧ s.size ≤ 4000 then (t, true) else (⟨#[]⟩, false)) := by
  obtain ⟨ps, hp⟩ := cut_parts s.data.toList [35] 35 rfl
  have hh := cut_has s.data.toList 35
  have htz : t.size ≤ s.size := by
    have := parts_mem 35 s.data.toList (Lib.cut s.data.toList [35]).1 (by rw [hp]; exact List.mem_cons_self)
    rw [ht, size_list, size_list s]
    exact this
  have hnot : has t 35 = false := by
    unfold has
    rw [ht]
    show decide (0 ≤ Lib.indexByte (Lib.cut s.data.toList [35]).1 35) = false
    rw [hh]; rfl
  obtain ⟨h0, h1⟩ := sumB_range t
  obtain ⟨K, e⟩ := app_impl t (by omega) (sumB_ev t (by omega)).2 h0 h1
  have hz := sealR_size t (sumB t) h0 h1
  have ec : strings_Cut.f s (⟨#[35]⟩ : ByteArray) = some (t, ⟨(Lib.cut s.data.toList [35]).2.1.toArray⟩, (Lib.cut s.data.toList [35]).2.2) := by
    unfold strings_Cut.f
    rw [if_pos (by omega), ht]; rfl
  refine ⟨K, fun k hk => ?_⟩
  have e := e k hk
  dsimp only at e ⊢
  rw [impl_VerifyChecksum.f, ec, Option.bind_some, e, Option.bind_some]
  unfold apR
  by_cases h4 : 4000 < t.size
  · rw [if_pos h4, if_neg (by simp), if_neg (fun q => by omega)]
  · rw [if_neg h4, if_neg (show ¬ has t 35 = true from by rw [hnot]; exact Bool.false_ne_true)]
    by_cases h6 : 4000 < (sealR t (sumB t)).size
    · rw [if_pos h6, if_neg (by simp), if_neg (fun q => by rw [q.1] at h6; omega)]
    · rw [if_neg h6, if_pos rfl]
      by_cases h7 : sealR t (sumB t) = s
      · rw [if_pos (tl_inj.mpr h7), if_pos ⟨h7, by rw [h7] at h6; omega⟩]
      · rw [if_neg (fun q => h7 (tl_inj.mp q)), if_neg (fun q => h7 q.1)]
theorem seal_list (x : ByteArray) (r : Int) (h0 : 0 ≤ r) : (sealR x r).data.toList = x.data.toList ++ 35 :: Lib.decDigits r.toNat := by
  unfold sealR
  rw [app_list, app_list]
  have e : (itoaB r).data.toList = Lib.decDigits r.toNat := by
    show Lib.itoa r = _
    unfold Lib.itoa
    rw [if_neg (by omega)]
  rw [e]
  simp
theorem no35 {l : List UInt8} (h : Lib.indexByte l 35 = -1) : ∀ b ∈ l, b ≠ 35 := by
  intro b hb q
  obtain ⟨i, hi, rfl⟩ := List.getElem_of_mem hb
  exact Lib.indexByte_none h i (by rw [List.getElem?_eq_getElem hi, q])
theorem has_no {x : ByteArray} (h : has x 35 = false) : ∀ b ∈ x.data.toList, b ≠ 35 := by
  have hg := Lib.indexByte_ge x.data.toList 35
  unfold has at h
  have h2 := of_decide_eq_false h
  exact no35 (by omega)
theorem dig_no35 (u : Nat) : ∀ b ∈ Lib.decDigits u, b ≠ 35 := fun b hb q => by
  have := dd_dig u b hb
  subst q
  exact absurd this (by decide)
theorem cut_first {w rest : List UInt8} (h : ∀ b ∈ w, b ≠ 35) : (Lib.cut (w ++ 35 :: rest) [35]).1 = w := by
  obtain ⟨ps, hp⟩ := cut_parts (w ++ 35 :: rest) [35] 35 rfl
  rw [parts_app 35 w rest h] at hp
  exact (List.cons.inj hp).1.symm
theorem first_eq {u v u' v' : List UInt8} (h : ∀ b ∈ u, b ≠ 35) (h' : ∀ b ∈ u', b ≠ 35) (e : u ++ 35 :: v = u' ++ 35 :: v') : u = u' ∧ v = v' := by
  have h1 := cut_first (rest := v) h
  have h2 := cut_first (rest := v') h'
  rw [e, h2] at h1
  subst h1
  exact ⟨rfl, (List.cons.inj (List.append_cancel_left e)).2⟩
/-- A changed byte is noticed. -/
theorem detect (x t : List UInt8) (q : Nat) (c : UInt8) (hx : ∀ b ∈ x, b ≠ 35) (ht : ∀ b ∈ t, b ≠ 35) (hq : q < (x ++ 35 :: Lib.decDigits (sumL 7 x).toNat).length) (hc : c ≠ (x ++ 35 :: Lib.decDigits (sumL 7 x).toNat)[q]) :
    t ++ 35 :: Lib.decDigits (sumL 7 t).toNat ≠ (x ++ 35 :: Lib.decDigits (sumL 7 x).toNat).set q c := by
  intro e
  have hcx : x.count 35 = 0 := List.count_eq_zero.2 (fun h => hx 35 h rfl)
  have hct : t.count 35 = 0 := List.count_eq_zero.2 (fun h => ht 35 h rfl)
  have hcd : ∀ u, (Lib.decDigits u).count 35 = 0 := fun u => List.count_eq_zero.2 (fun h => dig_no35 u 35 h rfl)
  have hr1 := sumL_range x 7 (by omega) (by omega)
  have hr2 := sumL_range t 7 (by omega) (by omega)
  rcases Nat.lt_trichotomy q x.length with h | h | h
  · rw [List.set_append_left _ _ h] at e
    have hcount := congrArg (List.count 35) e
    rw [List.count_append, List.count_append, List.count_cons_self, List.count_cons_self, hct, hcd, hcd] at hcount
    have hx' : ∀ b ∈ x.set q c, b ≠ 35 := fun b hb q2 => by
      subst q2
      have := List.count_pos_iff.2 hb
      omega
    obtain ⟨e1, e2⟩ := first_eq ht hx' e
    have e3 := digits_inj e2
    rw [e1] at e3 hr2
    refine sumL_set x q c 7 h ?_ (by omega) (by omega) (by omega)
    rw [List.getElem_append_left h] at hc
    exact hc
  · subst h
    rw [List.set_append_right _ _ (Nat.le_refl _), Nat.sub_self, List.set_cons_zero] at e
    have hcount := congrArg (List.count 35) e
    rw [List.getElem_append_right (Nat.le_refl _)] at hc
    simp only [Nat.sub_self, List.getElem_cons_zero] at hc
    rw [List.count_append, List.count_append, List.count_cons_self, List.count_cons_of_ne hc, hct, hcx, hcd, hcd] at hcount
    omega
  · obtain ⟨p, rfl⟩ : ∃ p, q = x.length + (p + 1) := ⟨q - x.length - 1, by omega⟩
    rw [List.set_append_right _ _ (by omega), Nat.add_sub_cancel_left, List.set_cons_succ] at e
    obtain ⟨e1, e2⟩ := first_eq ht hx e
    subst e1
    have hp : p < (Lib.decDigits (sumL 7 t).toNat).length := by
      rw [List.length_append, List.length_cons] at hq; omega
    rw [List.getElem_append_right (by omega)] at hc
    simp only [Nat.add_sub_cancel_left, List.getElem_cons_succ] at hc
    have e3 : (Lib.decDigits (sumL 7 t).toNat)[p]? = ((Lib.decDigits (sumL 7 t).toNat).set p c)[p]? := congrArg (·[p]?) e2
    rw [List.getElem?_eq_getElem hp, List.getElem?_set_self hp] at e3
    exact hc (Option.some.inj e3).symm
end Go.Proofs.YtlcikalgphafaaaDoor.P
