/- The law FnStrings answers true for every input. No condition beyond the row's own. -/
import Derived.Test.YtlcikalgphafaaaDoorStFnStrings
import Derived.Test.YtlcikalgphafaaaDoorCurP
import Derived.Test.YtlcikalgphafaaaDoorSumP
import Derived.Test.YtlcikalgphafaaaDoorNumP
import Derived.Test.YtlcikalgphafaaaDoorReadP
import Derived.Test.YtlcikalgphafaaaDoorSealP
import Derived.Laws.BitsLemmas
namespace Go.Proofs.YtlcikalgphafaaaDoor.P
open Go.RowKit Go.Proofs.YtlcikalgphafaaaDoorW.PrintWords Go.Proofs.YtlcikalgphafaaaDoorW.PrintLast Go.Proofs.YtlcikalgphafaaaDoorW.PrintMore
set_option linter.unusedVariables false
set_option linter.unusedSimpArgs false
theorem xor8 (a b : Int) (a0 : 0 ≤ a) (a1 : a < 256) (b0 : 0 ≤ b) (b1 : b < 256) : 0 ≤ Go.bits .xor .u8 a b ∧ Go.bits .xor .u8 a b < 256 ∧ (b ≠ 0 → Go.bits .xor .u8 a b ≠ a) := by
  have h : Go.bits .xor .u8 a b = IntKind.u8.wrap (((BitVec.ofInt 8 a ^^^ BitVec.ofInt 8 b).toNat : Nat) : Int) := rfl
  have hl : (BitVec.ofInt 8 a ^^^ BitVec.ofInt 8 b).toNat < 256 := (BitVec.ofInt 8 a ^^^ BitVec.ofInt 8 b).isLt
  rw [h, IntKind.wrap_u8]
  refine ⟨by omega, by omega, fun hb e => ?_⟩
  have ea : ((BitVec.ofInt 8 a).toNat : Int) = a := by
    rw [BitVec.toNat_ofInt]; omega
  have eb : ((BitVec.ofInt 8 b).toNat : Int) = b := by
    rw [BitVec.toNat_ofInt]; omega
  have e2 : BitVec.ofInt 8 a ^^^ BitVec.ofInt 8 b = BitVec.ofInt 8 a := BitVec.eq_of_toNat_eq (by omega)
  have e3 : BitVec.ofInt 8 b = 0#8 := by
    have e4 := congrArg (BitVec.ofInt 8 a ^^^ ·) e2
    simpa [← BitVec.xor_assoc] using e4
  rw [e3] at eb
  exact hb (by simpa using eb.symm)
theorem drawFmt_ok {l : List Int} (hc : IsCode l) : ∃ n, spec_DrawFormatInt.f l = some n ∧ -1000000 ≤ n ∧ n ≤ 1000000 := by
  obtain ⟨x, a, s, e, g0, g1, g2⟩ := pick_ok hc 0 0 1000 (by omega) (by omega) (by omega) (by omega)
  obtain ⟨i, a', s', e2, h0, h1, h2⟩ := pick_ok hc a s 9 (by omega) (by omega) (by omega) (by omega)
  have e2' : spec_l1Cur_pick.f l a s ((([0, 1, (-1), 10, 999999, (-999999), 1000000, (-1000000), wrap64 (x - 500)] : List Int)).length : Int) = some (i, a', s') := e2
  rw [spec_DrawFormatInt.f, e, Option.bind_some, spec_l1Cur_among.f, e2', Option.bind_some, if_pos h0, if_pos (show i < ((([0, 1, (-1), 10, 999999, (-999999), 1000000, (-1000000), wrap64 (x - 500)] : List Int)).length : Int) from h1), Option.bind_some]
  refine ⟨_, rfl, ?_⟩
  have hmem : rd ([0, 1, (-1), 10, 999999, (-999999), 1000000, (-1000000), wrap64 (x - 500)] : List Int) i ∈ ([0, 1, (-1), 10, 999999, (-999999), 1000000, (-1000000), wrap64 (x - 500)] : List Int) := by
    unfold rd
    rw [List.getD_eq_getElem?_getD, List.getElem?_eq_getElem (by show i.toNat < 9; omega)]
    exact List.getElem_mem _
  have hw : wrap64 (x - 500) = x - 500 := wrap_in (by omega) (by omega)
  dsimp only
  generalize rd ([0, 1, (-1), 10, 999999, (-999999), 1000000, (-1000000), wrap64 (x - 500)] : List Int) i = z at hmem
  simp only [List.mem_cons, List.mem_nil_iff, or_false] at hmem
  omega
theorem drawApp_ok {l : List Int} (hc : IsCode l) : ∃ x, spec_DrawAppendChecksum.f l = some x ∧ x.size ≤ 4010 := by
  obtain ⟨b, a, s, e, g⟩ := one_ok hc 0 0 20 (by omega) (by omega) (by omega) (by omega)
  rw [spec_DrawAppendChecksum.f, e, Option.bind_some]
  cases b with
  | true =>
    obtain ⟨x, a2, s2, e2, h0, h1, h2⟩ := pick_ok hc a s 10 (by omega) (by omega) (by omega) (by omega)
    rw [if_pos rfl, e2, Option.bind_some, wrap_in (x := 3990 + x) (by omega) (by omega), if_pos (by omega), if_pos (by omega)]
    refine ⟨_, rfl, ?_⟩
    rw [strOfNums_size, List.length_replicate]; omega
  | false =>
    obtain ⟨x, a2, s2, e2, h0, h1⟩ := any1_ok hc a s (by omega) (by omega)
    rw [if_neg (by simp), e2, Option.bind_some]
    exact ⟨x, rfl, by omega⟩
theorem drawParse_ok {l : List Int} (hc : IsCode l) : ∃ t, Ev (fun k => spec_DrawParseInt.f k l) t := by
  obtain ⟨b, a, s, e, g⟩ := one_ok hc 0 0 2 (by omega) (by omega) (by omega) (by omega)
  cases b with
  | true =>
    obtain ⟨x, a2, s2, e2, h0, h1⟩ := of_ok hc a s (by omega) (by omega) [(⟨#[]⟩ : ByteArray), (⟨#[45]⟩ : ByteArray), (⟨#[45, 48]⟩ : ByteArray), (⟨#[48, 48]⟩ : ByteArray), (⟨#[48, 49]⟩ : ByteArray), (⟨#[45, 45, 49]⟩ : ByteArray), (⟨#[49, 120]⟩ : ByteArray), (⟨#[57, 57, 57, 57, 57, 57]⟩ : ByteArray), (⟨#[49, 48, 48, 48, 48, 48, 48]⟩ : ByteArray), (⟨#[45, 57, 57, 57, 57, 57, 57]⟩ : ByteArray), (⟨#[49, 56, 52, 52, 54, 55, 52, 52, 48, 55, 51, 55, 48, 57, 53, 53, 49, 54, 49, 55]⟩ : ByteArray)] (by decide) (by decide)
    exact ⟨x, 0, fun k _ => by dsimp only; rw [spec_DrawParseInt.f, e, Option.bind_some, if_pos rfl, e2, Option.bind_some]⟩
  | false =>
    obtain ⟨x, a2, s2, e2, h0, h1, h2⟩ := pick_ok hc a s 2000 (by omega) (by omega) (by omega) (by omega)
    obtain ⟨K, hK⟩ := num_ev (x - 1000) (by omega) (by omega)
    refine ⟨itoaB (x - 1000), K, fun k hk => ?_⟩
    have e3 := hK k hk
    dsimp only at e3 ⊢
    rw [spec_DrawParseInt.f, e, Option.bind_some, if_neg (by simp), e2, Option.bind_some, wrap_in (x := x - 1000) (by omega) (by omega), e3, Option.bind_some]
theorem vAt_ok {l : List Int} (hc : IsCode l) (hl : l.length ≤ 65536) (i : Int) (h0 : 0 ≤ i) (h1 : i ≤ 1000) : ∃ v, laws_vAt.f l i = some v ∧ 0 ≤ v ∧ v < 256 := by
  rw [laws_vAt.f]
  by_cases h : i < (l.length : Int)
  · have hb := rdc hc h0 h
    rw [if_pos h, if_pos h0, wrap_in (x := rd l i) (by omega) (by omega)]
    exact ⟨_, rfl, hb⟩
  · rw [if_neg h, wrap_in (x := i * 7) (by omega) (by omega), wrap_in (x := i * 7 + (l.length : Int)) (by omega) (by omega), Int.tmod_eq_emod_of_nonneg (by omega)]
    exact ⟨_, rfl, Int.emod_nonneg _ (by omega), Int.emod_lt_of_pos _ (by omega)⟩
theorem set_str (y : ByteArray) (q : Nat) (X : Int) (h0 : 0 ≤ X) (h1 : X < 256) : (strOfNums ((bytesOf y).set q X)).data.toList = y.data.toList.set q (UInt8.ofNat X.toNat) := by
  rw [strOfNums_data]
  unfold bytesOf
  obtain ⟨c, hc⟩ : ∃ c, c = UInt8.ofNat X.toNat := ⟨_, rfl⟩
  have e : X = (c.toNat : Int) := by rw [hc, UInt8.toNat_ofNat']; omega
  rw [← hc, e, ← List.map_set (f := fun b : UInt8 => (b.toNat : Int)), List.map_map]
  conv => rhs; rw [← List.map_id (y.data.toList.set q c)]
  apply List.map_congr_left
  intro b _
  simp
theorem FnStrings_ok : FnStringsTrue := by
  intro A0 c0 l w hr hcap hl HTA HTB HTC
  have hc : IsCode l := fun x hx => by
    have := hl.2 x hx
    simp only [Lit.wf, Bool.and_eq_true, decide_eq_true_eq] at this
    have h1 : IntKind.u8.min = 0 := rfl
    have h2 : IntKind.u8.max = 255 := rfl
    omega
  by_cases hb : (l.length : Int) > 65536
  · exact FnStrings_big A0 c0 l w hr hcap (by rw [laws_vBig.f, decide_eq_true hb])
  · have E1 : laws_vBig.f l = some false := by rw [laws_vBig.f, decide_eq_false hb]
    obtain ⟨n, E2, n0, n1⟩ := drawFmt_ok hc
    obtain ⟨K1, e1⟩ := num_ev n (by omega) (by omega)
    obtain ⟨ok, hok⟩ : ∃ ok, ok = inB n (-999999) 999999 := ⟨_, rfl⟩
    obtain ⟨s, hs⟩ : ∃ s, s = (if ok = true then itoaB n else (⟨#[]⟩ : ByteArray)) := ⟨_, rfl⟩
    have E3 : impl_FormatInt.f n = some (s, ok) := by
      rw [impl_FormatInt.f, within_eq, Option.bind_some, ← hok, itoa_eq n (by omega) (by omega), hs]
      cases ok <;> rfl
    have E4 : ∀ k, K1 ≤ k → spec_FormatInt.f k n = some (s, ok) := fun k hk => by
      have e := e1 k hk
      dsimp only at e
      rw [spec_FormatInt.f, l1In_eq, Option.bind_some, ← hok, e, hs]
      cases ok <;> rfl
    obtain ⟨t, K2, e2⟩ := drawParse_ok hc
    obtain ⟨K3, e3⟩ := read_ev t
    rw [← parse_read] at e3
    obtain ⟨m, fine, hp⟩ : ∃ m fine, parseR t = (m, fine) := ⟨_, _, rfl⟩
    rw [hp] at e3
    obtain ⟨x, E8, hx⟩ := drawApp_ok hc
    obtain ⟨r0, r1⟩ := sumB_range x
    obtain ⟨K4, e4⟩ := app_spec x (by omega) (sumB_ev x (by omega)).1 r0 r1
    obtain ⟨K5, e5⟩ := app_impl x (by omega) (sumB_ev x (by omega)).2 r0 r1
    obtain ⟨b1, b2, hp2⟩ : ∃ b1 b2, parseR s = (b1, b2) := ⟨_, _, rfl⟩
    have hq : (ok = true ∧ b2 = true ∧ n = b1) ∨ ok = false := by
      cases hk : ok with
      | false => exact .inr rfl
      | true =>
        refine .inl ⟨rfl, ?_⟩
        rw [hk, if_pos rfl] at hs
        have hin := inB_iff.mp (hok.symm.trans hk)
        rw [hs, parse_itoa n hin.1 hin.2] at hp2
        obtain ⟨g1, g2⟩ := Prod.mk.inj hp2
        exact ⟨g2.symm, g1⟩
    by_cases hseal : 4000 < x.size ∨ has x 35 = true ∨ 4000 < (sealR x (sumB x)).size
    · have hap : apR x (sumB x) = (⟨#[]⟩, false) := by
        unfold apR
        by_cases h1 : 4000 < x.size
        · rw [if_pos h1]
        · rw [if_neg h1]
          by_cases h2 : has x 35 = true
          · rw [if_pos h2]
          · rw [if_neg h2, if_pos (by rcases hseal with h | h | h
                                      · exact absurd h h1
                                      · exact absurd h h2
                                      · exact h)]
      rw [hap] at e4 e5
      obtain ⟨K, hK⟩ : ∃ K, K = K1 + K2 + K3 + K4 + K5 := ⟨_, rfl⟩
      exact FnStrings_open K A0 c0 l n s ok t m fine x ⟨#[]⟩ b1 b2 w hr hcap E1 E2 E3 (E4 K (by omega)) (e2 K (by omega)) (congrArg some hp) (by
        have e := e3 K (by omega)
        dsimp only at e
        rw [spec_ParseInt.f, e, Option.bind_some]) E8 (e5 K (by omega)) (e4 K (by omega)) (congrArg some hp2) hq rfl HTA HTB HTC
    · have h1 : ¬ 4000 < x.size := fun h => hseal (.inl h)
      have h2 : ¬ has x 35 = true := fun h => hseal (.inr (.inl h))
      have h3 : ¬ 4000 < (sealR x (sumB x)).size := fun h => hseal (.inr (.inr h))
      have hap : apR x (sumB x) = (sealR x (sumB x), true) := by
        unfold apR
        rw [if_neg h1, if_neg h2, if_neg h3]
      rw [hap] at e4 e5
      obtain ⟨y, hy⟩ : ∃ y, y = sealR x (sumB x) := ⟨_, rfl⟩
      rw [← hy] at e4 e5 h3
      have hx35 := has_no (x := x) (by simpa using h2)
      have hyl : y.data.toList = x.data.toList ++ 35 :: Lib.decDigits (sumL 7 x.data.toList).toNat := by rw [hy, seal_list x _ r0]; rfl
      have hcy : x = baOf (Lib.cut y.data.toList [35]).1 := by
        rw [hyl, cut_first hx35]; exact ba_ext rfl
      obtain ⟨K6, e6⟩ := ver_ev y (by omega) x hcy
      rw [if_pos ⟨hy.symm, by omega⟩] at e6
      obtain ⟨v9, E13, v90, v91⟩ := vAt_ok hc (by omega) 9 (by omega) (by omega)
      obtain ⟨v10, E14, va0, va1⟩ := vAt_ok hc (by omega) 10 (by omega) (by omega)
      have hsz := sealR_size x (sumB x) r0 r1
      have hy1 : 1 ≤ y.size := by rw [hy]; omega
      obtain ⟨q, hq1⟩ : ∃ q : Nat, Int.tmod v9 (y.size : Int) = (q : Int) := ⟨(Int.tmod v9 (y.size : Int)).toNat, by
        rw [Int.tmod_eq_emod_of_nonneg v90]
        have := Int.emod_nonneg v9 (show (y.size : Int) ≠ 0 by omega)
        omega⟩
      have hq2 : q < y.size := by
        rw [Int.tmod_eq_emod_of_nonneg v90] at hq1
        have := Int.emod_lt_of_pos v9 (show (0 : Int) < (y.size : Int) by omega)
        omega
      have hyn := size_list y
      have hbq : rd (bytesOf y) (q : Int) = ((y.data.toList[q]'(by omega)).toNat : Int) := by rw [rd_bytesOf, bt_get y q (by omega)]
      have hb256 := UInt8.toNat_lt (y.data.toList[q]'(by omega))
      have hm2 : 0 ≤ Int.tmod v10 255 ∧ Int.tmod v10 255 < 255 := by
        rw [Int.tmod_eq_emod_of_nonneg va0]
        exact ⟨Int.emod_nonneg _ (by omega), Int.emod_lt_of_pos _ (by omega)⟩
      have hm3 : IntKind.u8.wrap (wrap64 (1 + Int.tmod v10 255)) = 1 + Int.tmod v10 255 := by
        rw [wrap_in (x := 1 + Int.tmod v10 255) (by omega) (by omega), IntKind.wrap_u8]; omega
      obtain ⟨X, hX⟩ : ∃ X, X = Go.bits .xor .u8 (rd (bytesOf y) (q : Int)) (IntKind.u8.wrap (wrap64 (1 + Int.tmod v10 255))) := ⟨_, rfl⟩
      obtain ⟨x0, x1, x2⟩ := xor8 (rd (bytesOf y) (q : Int)) (IntKind.u8.wrap (wrap64 (1 + Int.tmod v10 255))) (by omega) (by omega) (by omega) (by omega)
      rw [← hX] at x0 x1 x2
      have hXne := x2 (by omega)
      obtain ⟨u, hu⟩ : ∃ u, u = strOfNums ((bytesOf y).set q X) := ⟨_, rfl⟩
      have hul : u.data.toList = y.data.toList.set q (UInt8.ofNat X.toNat) := by rw [hu]; exact set_str y q X x0 x1
      have hcne : UInt8.ofNat X.toNat ≠ y.data.toList[q]'(by omega) := fun e => hXne (by
        rw [hbq, ← e, UInt8.toNat_ofNat']; omega)
      obtain ⟨z, hz⟩ : ∃ z, z = baOf (Lib.cut u.data.toList [35]).1 := ⟨_, rfl⟩
      have husz : u.size = y.size := by rw [size_list, hul, List.length_set, ← size_list]
      obtain ⟨K7, e7⟩ := ver_ev u (by omega) z hz
      have hdet : ¬ sealR z (sumB z) = u := fun e => by
        have e8 : (sealR z (sumB z)).data.toList = u.data.toList := by rw [e]
        rw [seal_list z _ (sumB_range z).1, hul] at e8
        have hz35 : ∀ b ∈ z.data.toList, b ≠ 35 := by
          rw [hz]
          exact no35 (cut_has u.data.toList 35)
        have hq3 : q < (x.data.toList ++ 35 :: Lib.decDigits (sumL 7 x.data.toList).toNat).length := by rw [← hyl]; omega
        refine detect x.data.toList z.data.toList q (UInt8.ofNat X.toNat) hx35 hz35 hq3 ?_ (e8.trans (by rw [hyl]))
        simp only [← hyl]
        exact hcne
      rw [if_neg (fun h => hdet h.1)] at e7
      obtain ⟨K, hK⟩ : ∃ K, K = K1 + K2 + K3 + K4 + K5 + K6 + K7 := ⟨_, rfl⟩
      exact laws_FnStrings.walk K A0 c0 l n s ok t m fine x y b1 b2 w hr hcap E1 E2 E3 (E4 K (by omega)) (e2 K (by omega)) (congrArg some hp) (by
        have e := e3 K (by omega)
        dsimp only at e
        rw [spec_ParseInt.f, e, Option.bind_some]) E8 (e5 K (by omega)) (e4 K (by omega)) (congrArg some hp2) hq v9 v10 q u ⟨#[]⟩ (e6 K (by omega)) E13 E14 (e7 K (by omega)) hq1 hq2 ⟨va0, va1⟩ (by omega) (by rw [hu, hX]) HTA HTB HTC
end Go.Proofs.YtlcikalgphafaaaDoor.P
