/- The contracts of strings.Contains at one byte and of strings.Join over the shelf's. -/
import Derived.Test.YtlcikalgphafaaaDoorShelfA
import Derived.Test.YtlcikalgphafaaaDoorPx0
namespace Go.Proofs.YtlcikalgphafaaaDoor.P
open Go.RowKit Go.Proofs.YtlcikalgphafaaaDoorW.PrintWords Go.Proofs.YtlcikalgphafaaaDoorW.PrintLast Go.Proofs.YtlcikalgphafaaaDoorW.PrintMore
set_option linter.unusedVariables false
set_option linter.unusedSimpArgs false
def strings_Contains.f (s t : ByteArray) : Option Bool := if t.size = 1 then some (decide (0 ≤ Lib.indexByte s.data.toList (t.data.toList.getD 0 0))) else none
theorem strings_Contains.calls (s t : ByteArray) (r : Bool) (w : World) (h : strings_Contains.f s t = some r) :
    Calls Tryd.prog 62 #[.string s, .string t] w fun e w' => e = .returned (.bool r) ∧ Drawn0 w w' := by
  unfold strings_Contains.f at h
  by_cases h1 : t.size = 1
  · rw [if_pos h1] at h
    obtain rfl := Option.some.inj h
    obtain ⟨⟨l⟩⟩ := t
    obtain ⟨c, rfl⟩ : ∃ c, l = [c] := List.length_eq_one_iff.mp h1
    refine (Tryd.strings_Contains_one s c w).mono ?_
    rintro e w' ⟨rfl, rfl⟩
    exact ⟨rfl, Drawn0.refl _⟩
  · rw [if_neg h1] at h; cases h
def strings_Join.f (l : List ByteArray) (sep : ByteArray) : Option ByteArray := if l.length ≤ 140737488355328 ∧ (Lib.join (l.map (·.data.toList)) sep.data.toList).length ≤ 140737488355328 then some ⟨(Lib.join (l.map (·.data.toList)) sep.data.toList).toArray⟩ else none
theorem strings_Join.calls (A0 : Option Addr) (c0 : Nat) (l0 : List ByteArray) (sep : ByteArray) (r : ByteArray) (w : World) (hr0 : Kd.C Kd.string w A0 l0.length l0) (hc0 : l0.length ≤ c0) (h : strings_Join.f l0 sep = some r) :
    Calls Tryd.prog 68 #[.slice A0 l0.length c0, .string sep] w fun e w' => e = .returned (.string r) ∧ Below w.heap.size w w' := by
  unfold strings_Join.f at h
  by_cases h1 : l0.length ≤ 140737488355328 ∧ (Lib.join (l0.map (·.data.toList)) sep.data.toList).length ≤ 140737488355328
  · rw [if_pos h1] at h
    obtain rfl := Option.some.inj h
    clear h
    by_cases hn : l0 = []
    · subst hn
      refine (Any.strings_Join_none Tryd.lays156 Tryd.Builder_Extra_156 A0 c0 sep w).mono ?_
      rintro e w' ⟨rfl, rfl⟩
      exact ⟨rfl, Below.refl _ _⟩
    · have hp : 0 < l0.length := List.length_pos_iff.mpr hn
      obtain ⟨ad, rfl, h0c⟩ := Kd.at_string hr0 0 (by omega) (by omega)
      obtain ⟨bk, o, sp⟩ := ad
      obtain rfl : sp = none := by
        cases sp with
        | none => rfl
        | some q =>
          exfalso
          have h0c : w.cell? ⟨bk, o, some q⟩ = some (.string (rdOf ByteArray.empty l0 0)) := h0c
          unfold World.cell? at h0c
          split at h0c
          · simp at h0c
          · cases h0c
      have hcells : ∀ (j : Nat) x, l0[j]? = some x → w.cell? ⟨bk, o + j, none⟩ = some (.string x) := by
        intro j x hx
        obtain ⟨hj, hx'⟩ := List.getElem?_eq_some_iff.mp hx
        obtain ⟨ad', he, hc⟩ := Kd.at_string hr0 (j : Int) (by omega) (by omega)
        cases he
        have e1 : rdOf ByteArray.empty l0 (j : Int) = x := by
          unfold rdOf
          rw [Int.toNat_natCast, List.getD_eq_getElem?_getD, hx]; rfl
        rw [e1, Int.toNat_natCast] at hc
        rw [← hc]
        unfold Addr.add
        by_cases h0 : j = 0
        · subst h0; rfl
        · rw [if_neg h0]
      have hbk : bk < w.heap.size := by
        have hc := hcells 0 l0[0] (List.getElem?_eq_getElem hp)
        rcases Nat.lt_or_ge bk w.heap.size with h | h
        · exact h
        · rw [World.cell?, show w.heap[bk]? = none from Array.getElem?_eq_none h] at hc
          cases hc
      exact (Tryd.strings_Join bk o c0 l0 sep w hcells hbk h1.1 hc0 h1.2).mono fun e w' h => h
  · rw [if_neg h1] at h; cases h
end Go.Proofs.YtlcikalgphafaaaDoor.P
