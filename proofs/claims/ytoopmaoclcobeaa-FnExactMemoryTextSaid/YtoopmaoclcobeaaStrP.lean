/- Plain lemmas on texts: whether a byte stands in one, copies of lists of texts and their sizes. No program, no memory. -/
import Derived.Test.YtoopmaoclcobeaaPx1
import Derived.Test.YtoopmaoclcobeaaStr
import Derived.Test.YtoopmaoclcobeaaBase
namespace Go.Proofs.Ytoopmaoclcobeaa.P
open Go.RowKit Go.Proofs.YtoopmaoclcobeaaW.PrintWords Go.Proofs.YtoopmaoclcobeaaW.PrintLast Go.Proofs.YtoopmaoclcobeaaW.PrintMore
set_option linter.unusedVariables false
set_option linter.unusedSimpArgs false
theorem bt_get (s : ByteArray) (i : Nat) (h : i < s.data.toList.length) : bt s (i : Int) = ((s.data.toList[i]).toNat : Int) := by
  unfold bt
  have h1 : i < s.size := by simpa using h
  rw [Int.toNat_natCast, dif_pos h1]
  rfl
theorem size_list (s : ByteArray) : s.size = s.data.toList.length := by rw [Array.length_toList]; rfl
/-- Whether a byte stands in a text. -/
def has (x : ByteArray) (c : UInt8) : Bool := decide (0 ≤ Lib.indexByte x.data.toList c)
theorem indexByte_cons (b : UInt8) (l : List UInt8) (c : UInt8) : (0 ≤ Lib.indexByte (b :: l) c) ↔ (b = c ∨ 0 ≤ Lib.indexByte l c) := by
  have hg := Lib.indexByte_ge l c
  rw [Lib.indexByte]
  by_cases h : b = c
  · subst h; simp
  · have h1 : (b == c) = false := by simpa using h
    rw [h1, if_neg (by decide)]
    by_cases h2 : Lib.indexByte l c = -1
    · rw [h2]; simp [h]
    · have h3 : (Lib.indexByte l c == -1) = false := by simpa using h2
      rw [h3, if_neg (by decide)]
      constructor
      · intro _; right; omega
      · rintro (h4 | h4)
        · exact absurd h4 h
        · omega
theorem stands_l0 (x : ByteArray) (c : UInt8) (hx : x.size ≤ 1073741824) (d : Nat) : ∀ i : Nat, i + d = x.data.toList.length →
    Ev (fun k => spec_l1Stands.l0 k x (c.toNat : Int) (i : Int)) (decide (0 ≤ Lib.indexByte (x.data.toList.drop i) c)) := by
  have hs := size_list x
  induction d with
  | zero =>
    intro i hi
    refine Ev.end_ (fun k => ?_)
    rw [spec_l1Stands.l0, if_neg (by omega), List.drop_eq_nil_of_le (by omega)]
    rfl
  | succ d ih =>
    intro i hi
    have hlt : i < x.data.toList.length := by omega
    rw [List.drop_eq_getElem_cons hlt]
    by_cases h : x.data.toList[i] = c
    · refine Ev.end_ (fun k => ?_)
      rw [spec_l1Stands.l0, if_pos (by omega), if_pos (by omega), bt_get x i hlt, if_pos (by rw [h])]
      rw [decide_eq_true ((indexByte_cons _ _ _).mpr (Or.inl h))]
    · refine Ev.step (fun k => ?_) ((show decide (0 ≤ Lib.indexByte (x.data.toList[i] :: x.data.toList.drop (i + 1)) c) = decide (0 ≤ Lib.indexByte (x.data.toList.drop (i + 1)) c) from decide_eq_decide.mpr ((indexByte_cons _ _ _).trans ⟨fun q => q.resolve_left h, Or.inr⟩)) ▸ ih (i + 1) (by omega))
      rw [spec_l1Stands.l0, if_pos (by omega), if_pos (by omega), bt_get x i hlt, if_neg (fun q => h (by
        have q1 : (x.data.toList[i]).toNat = c.toNat := by omega
        exact UInt8.toNat_inj.mp q1)), wrap_succ i (by omega)]
theorem stands_ev (x : ByteArray) (c : UInt8) (hx : x.size ≤ 1073741824) : Ev (fun k => spec_l1Stands.f k x (c.toNat : Int)) (has x c) := by
  have := stands_l0 x c hx x.data.toList.length 0 (by omega)
  simpa [spec_l1Stands.f, has] using this
theorem contains_eq (x sep : ByteArray) (c : UInt8) (hs : sep.data.toList = [c]) : strings_Contains.f x sep = some (has x c) := by
  unfold strings_Contains.f has
  rw [if_pos (by rw [size_list, hs]; rfl), hs]; rfl
theorem rdOf_get {l : List ByteArray} {i : Nat} (h : i < l.length) : rdOf ByteArray.empty l (i : Int) = l[i] := by
  unfold rdOf
  rw [Int.toNat_natCast, List.getD_eq_getElem?_getD, List.getElem?_eq_getElem h]; rfl
/-- A list of texts is small. -/
def SmallT (l : List ByteArray) : Prop := l.length ≤ 1048576 ∧ ∀ x ∈ l, x.size ≤ 1048576
theorem szStr_l0 (l : List ByteArray) (hf : ∀ x ∈ l, x.size ≤ 9223372036854775807) (hl : l.length ≤ 1048576) (d : Nat) : ∀ (i : Nat) (a : Int), i + d = l.length → 0 ≤ a → a ≤ 1048576 →
    ∃ r, Ev (fun k => laws_szStringS.l0 k l a (i : Int)) r ∧ (0 ≤ r → r ≤ a ∧ ∀ x ∈ l.drop i, x.size ≤ 1048576) := by
  induction d with
  | zero =>
    intro i a hi h0 h1
    refine ⟨a, Ev.end_ (fun k => ?_), fun _ => ⟨Int.le_refl _, fun x hx => ?_⟩⟩
    · simp only [laws_szStringS.l0]; rw [if_neg (by omega)]
    · rw [List.drop_eq_nil_of_le (by omega)] at hx; cases hx
  | succ d ih =>
    intro i a hi h0 h1
    have hlt : i < l.length := by omega
    have hfit := hf _ (List.getElem_mem hlt)
    by_cases hb : a < (l[i].size : Int)
    · refine ⟨-1, Ev.end_ (fun k => ?_), fun h => by omega⟩
      rw [laws_szStringS.l0, if_pos (by omega), if_pos (by omega), rdOf_get hlt, wrap_in (x := a - (l[i].size : Int)) (by omega) (by omega), if_pos (by omega)]
    · obtain ⟨r, hr, hs⟩ := ih (i + 1) (a - (l[i].size : Int)) (by omega) (by omega) (by omega)
      refine ⟨r, Ev.step (fun k => ?_) hr, fun h => ?_⟩
      · rw [laws_szStringS.l0, if_pos (by omega), if_pos (by omega), rdOf_get hlt, wrap_in (x := a - (l[i].size : Int)) (by omega) (by omega), if_neg (by omega), wrap_succ i (by omega)]
      · obtain ⟨h2, h3⟩ := hs h
        refine ⟨by omega, fun x hx => ?_⟩
        rw [List.drop_eq_getElem_cons hlt] at hx
        rcases List.mem_cons.1 hx with rfl | hx
        · omega
        · exact h3 x hx
theorem szStr (l : List ByteArray) (hm : l.length ≤ 9223372036854775807) (hf : ∀ x ∈ l, x.size ≤ 9223372036854775807) : ∃ r, Ev (fun k => laws_szStringS.f k l 1048576) r ∧ (¬ r < 0 → SmallT l) := by
  by_cases hb : (1048576 : Int) < (l.length : Int)
  · refine ⟨-1, ⟨0, fun k _ => ?_⟩, fun h => absurd (by omega) h⟩
    dsimp only
    unfold laws_szStringS.f
    rw [wrap_in (x := 1048576 - (l.length : Int)) (by omega) (by omega), if_pos (by omega)]
  · obtain ⟨r, ⟨K, hK⟩, hs⟩ := szStr_l0 l hf (by omega) l.length 0 (1048576 - (l.length : Int)) (by omega) (by omega) (by omega)
    refine ⟨r, ⟨K, fun k hk => ?_⟩, fun h => ?_⟩
    · have h1 := hK k hk
      dsimp only at h1 ⊢
      unfold laws_szStringS.f
      simp only [Int.ofNat_zero, Int.natCast_zero] at h1
      rw [wrap_in (x := 1048576 - (l.length : Int)) (by omega) (by omega), if_neg (by omega), h1]
    · obtain ⟨h2, h3⟩ := hs (by omega)
      exact ⟨by omega, by simpa using h3⟩
theorem set_takeT (x0 x3 : List ByteArray) (i : Nat) (hi : i < x0.length) (hl : x3.length = x0.length) (ht : x3.take i = x0.take i) : (x3.set i x0[i]).take (i + 1) = x0.take (i + 1) := by
  rw [List.take_succ_eq_append_getElem (by simpa using (by omega : i < x3.length)), List.take_succ_eq_append_getElem hi]
  congr 1
  · rw [List.take_set_of_le (Nat.le_refl _)]; exact ht
  · simp
theorem toStr_l0 (x0 : List ByteArray) (hx : x0.length ≤ 1048576) (d : Nat) : ∀ (i : Nat) (x3 : List ByteArray), i + d = x0.length → x3.length = x0.length → x3.take i = x0.take i →
    Ev (fun k => laws_toStringS.l0 k x0 x3 (i : Int)) x0 := by
  induction d with
  | zero =>
    intro i x3 hi hl ht
    have e : x3 = x0 := by
      rw [List.take_of_length_le (by omega), List.take_of_length_le (by omega)] at ht; exact ht
    subst e
    exact Ev.end_ (fun k => by rw [laws_toStringS.l0, if_neg (by omega)])
  | succ d ih =>
    intro i x3 hi hl ht
    have hlt : i < x0.length := by omega
    refine Ev.step (fun k => ?_) (ih (i + 1) (x3.set i x0[i]) (by omega) (by simpa using hl) (set_takeT x0 x3 i hlt hl ht))
    rw [laws_toStringS.l0, if_pos (by omega), if_pos (by omega), if_pos (by omega), rdOf_get hlt, Int.toNat_natCast, wrap_succ i (by omega)]
theorem toStr (x0 : List ByteArray) (hx : x0.length ≤ 1048576) : Ev (fun k => laws_toStringS.f k x0) x0 := by
  obtain ⟨K, hK⟩ := toStr_l0 x0 hx x0.length 0 (List.replicate x0.length ⟨#[]⟩) (by omega) (by simp) (by simp)
  refine ⟨K, fun k hk => ?_⟩
  have h1 := hK k hk
  dsimp only at h1 ⊢
  unfold laws_toStringS.f
  rw [if_pos (by omega), if_pos (by omega)]
  simpa using h1
theorem eqStr_l0 (x : List ByteArray) (hx : x.length ≤ 1048576) (d : Nat) : ∀ i : Nat, i + d = x.length → Ev (fun k => laws_eqStringS.l0 k x x (i : Int)) true := by
  induction d with
  | zero =>
    intro i hi
    exact Ev.end_ (fun k => by rw [laws_eqStringS.l0, if_neg (by omega)])
  | succ d ih =>
    intro i hi
    refine Ev.step (fun k => ?_) (ih (i + 1) (by omega))
    rw [laws_eqStringS.l0, if_pos (by omega), if_pos (by omega), if_pos (by omega), if_pos rfl, wrap_succ i (by omega)]
theorem eqStr (x : List ByteArray) (hx : x.length ≤ 1048576) : Ev (fun k => laws_eqStringS.f k x x) true := by
  obtain ⟨K, hK⟩ := eqStr_l0 x hx x.length 0 (by omega)
  refine ⟨K, fun k hk => ?_⟩
  have h1 := hK k hk
  dsimp only at h1 ⊢
  unfold laws_eqStringS.f
  rw [if_pos rfl]
  exact h1
end Go.Proofs.Ytoopmaoclcobeaa.P
