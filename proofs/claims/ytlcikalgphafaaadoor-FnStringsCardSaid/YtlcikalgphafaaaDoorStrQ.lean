/- Plain lemmas on texts: a byte, the size, whether a byte stands in one. No program, no memory. -/
import Derived.Test.YtlcikalgphafaaaDoorPx1
import Derived.Test.YtlcikalgphafaaaDoorStr
import Derived.Test.YtlcikalgphafaaaDoorBase
namespace Go.Proofs.YtlcikalgphafaaaDoor.P
open Go.RowKit Go.Proofs.YtlcikalgphafaaaDoorW.PrintWords Go.Proofs.YtlcikalgphafaaaDoorW.PrintLast Go.Proofs.YtlcikalgphafaaaDoorW.PrintMore
set_option linter.unusedVariables false
set_option linter.unusedSimpArgs false
theorem bt_get (s : ByteArray) (i : Nat) (h : i < s.data.toList.length) : bt s (i : Int) = ((s.data.toList[i]).toNat : Int) := by
  unfold bt
  have h1 : i < s.size := by simpa using h
  rw [Int.toNat_natCast, dif_pos h1]
  rfl
theorem size_list (s : ByteArray) : s.size = s.data.toList.length := by rw [Array.length_toList]; rfl
/-- Whether a byte stands in a text. -/
def has (x : ByteArray) (c : UInt8) : Bool := decide (0 ≤ Lib.indexByte x.data.toList c)
theorem indexByte_cons (b : UInt8) (l : List UInt8) (c : UInt8) : (0 ≤ Lib.indexByte (b :: l) c) ↔ (b = c ∨ 0 ≤ Lib.indexByte l c) := by
  have hg := Lib.indexByte_ge l c
  rw [Lib.indexByte]
  by_cases h : b = c
  · subst h; simp
  · have h1 : (b == c) = false := by simpa using h
    rw [h1, if_neg (by decide)]
    by_cases h2 : Lib.indexByte l c = -1
    · rw [h2]; simp [h]
    · have h3 : (Lib.indexByte l c == -1) = false := by simpa using h2
      rw [h3, if_neg (by decide)]
      constructor
      · intro _; right; omega
      · rintro (h4 | h4)
        · exact absurd h4 h
        · omega
theorem stands_l0 (x : ByteArray) (c : UInt8) (hx : x.size ≤ 1073741824) (d : Nat) : ∀ i : Nat, i + d = x.data.toList.length →
    Ev (fun k => spec_l1Stands.l0 k x (c.toNat : Int) (i : Int)) (decide (0 ≤ Lib.indexByte (x.data.toList.drop i) c)) := by
  have hs := size_list x
  induction d with
  | zero =>
    intro i hi
    refine Ev.end_ (fun k => ?_)
    rw [spec_l1Stands.l0, if_neg (by omega), List.drop_eq_nil_of_le (by omega)]
    rfl
  | succ d ih =>
    intro i hi
    have hlt : i < x.data.toList.length := by omega
    rw [List.drop_eq_getElem_cons hlt]
    by_cases h : x.data.toList[i] = c
    · refine Ev.end_ (fun k => ?_)
      rw [spec_l1Stands.l0, if_pos (by omega), if_pos (by omega), bt_get x i hlt, if_pos (by rw [h])]
      rw [decide_eq_true ((indexByte_cons _ _ _).mpr (Or.inl h))]
    · refine Ev.step (fun k => ?_) ((show decide (0 ≤ Lib.indexByte (x.data.toList[i] :: x.data.toList.drop (i + 1)) c) = decide (0 ≤ Lib.indexByte (x.data.toList.drop (i + 1)) c) from decide_eq_decide.mpr ((indexByte_cons _ _ _).trans ⟨fun q => q.resolve_left h, Or.inr⟩)) ▸ ih (i + 1) (by omega))
      rw [spec_l1Stands.l0, if_pos (by omega), if_pos (by omega), bt_get x i hlt, if_neg (fun q => h (by
        have q1 : (x.data.toList[i]).toNat = c.toNat := by omega
        exact UInt8.toNat_inj.mp q1)), wrap_succ i (by omega)]
theorem stands_ev (x : ByteArray) (c : UInt8) (hx : x.size ≤ 1073741824) : Ev (fun k => spec_l1Stands.f k x (c.toNat : Int)) (has x c) := by
  have := stands_l0 x c hx x.data.toList.length 0 (by omega)
  simpa [spec_l1Stands.f, has] using this
theorem contains_eq (x sep : ByteArray) (c : UInt8) (hs : sep.data.toList = [c]) : strings_Contains.f x sep = some (has x c) := by
  unfold strings_Contains.f has
  rw [if_pos (by rw [size_list, hs]; rfl), hs]; rfl
theorem rdOf_get {l : List ByteArray} {i : Nat} (h : i < l.length) : rdOf ByteArray.empty l (i : Int) = l[i] := by
  unfold rdOf
  rw [Int.toNat_natCast, List.getD_eq_getElem?_getD, List.getElem?_eq_getElem h]; rfl
theorem ba_ext {a b : ByteArray} (h : a.data.toList = b.data.toList) : a = b := by
  apply ByteArray.ext
  exact Array.toList_inj.mp h
/-- A list of texts is small. -/
def SmallT (l : List ByteArray) : Prop := l.length ≤ 1048576 ∧ ∀ x ∈ l, x.size ≤ 1048576
theorem tl_inj {a b : ByteArray} : a.toList = b.toList ↔ a = b := by
  rw [ByteArray.toList_eq, ByteArray.toList_eq]
  exact ⟨ba_ext, fun h => by rw [h]⟩
end Go.Proofs.YtlcikalgphafaaaDoor.P
