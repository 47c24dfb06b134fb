/- Plain lemmas: the checksum of a text, both ways; what both append. No program, no memory. -/
import Derived.Test.YtlcikalgphafaaaDoorNumP
import Derived.Test.YtlcikalgphafaaaDoorBase
import Derived.Test.YtlcikalgphafaaaDoorPx18
import Derived.Test.YtlcikalgphafaaaDoorPx17
import Derived.Test.YtlcikalgphafaaaDoorStrQ
namespace Go.Proofs.YtlcikalgphafaaaDoor.P
open Go.RowKit Go.Proofs.YtlcikalgphafaaaDoorW.PrintWords Go.Proofs.YtlcikalgphafaaaDoorW.PrintLast Go.Proofs.YtlcikalgphafaaaDoorW.PrintMore
set_option linter.unusedVariables false
set_option linter.unusedSimpArgs false
theorem sum_l0 (x : ByteArray) (hx : x.size ≤ 1073741824) (d : Nat) : ∀ (i : Nat) (h : Int), i + d = x.data.toList.length → 0 ≤ h → h < 999979 →
    ∃ r, Ev (fun k => spec_l1Sum.l0 k x h (i : Int)) r ∧ Ev (fun k => impl_checksum.l0 k x h (x.size : Int) (i : Int)) r ∧ 0 ≤ r ∧ r < 999979 := by
  have hs := size_list x
  induction d with
  | zero =>
    intro i h hi h0 h1
    exact ⟨h, Ev.end_ (fun k => by rw [spec_l1Sum.l0, if_neg (by omega)]), Ev.end_ (fun k => by rw [impl_checksum.l0, if_neg (by omega)]), h0, h1⟩
  | succ d ih =>
    intro i h hi h0 h1
    have hlt : i < x.data.toList.length := by omega
    have hb := bt_get x i hlt
    have hb2 : (x.data.toList[i]).toNat < 256 := UInt8.toNat_lt _
    have hv : Int.tmod (wrap64 ((wrap64 ((wrap64 (41 * h)) + (wrap64 (bt x (i : Int))))) + 1)) 999979 = (41 * h + ((x.data.toList[i]).toNat : Int) + 1) % 999979 := by
      rw [hb, wrap_in (x := 41 * h) (by omega) (by omega), wrap_in (x := ((x.data.toList[i]).toNat : Int)) (by omega) (by omega), wrap_in (x := 41 * h + ((x.data.toList[i]).toNat : Int)) (by omega) (by omega), wrap_in (by omega) (by omega), Int.tmod_eq_emod_of_nonneg (by omega)]
    obtain ⟨r, r1, r2, r3⟩ := ih (i + 1) ((41 * h + ((x.data.toList[i]).toNat : Int) + 1) % 999979) (by omega) (by omega) (by omega)
    refine ⟨r, Ev.step (fun k => ?_) r1, Ev.step (fun k => ?_) r2, r3⟩
    · rw [spec_l1Sum.l0, if_pos (by omega), if_pos (by omega), hv, wrap_succ i (by omega)]
    · rw [impl_checksum.l0, if_pos (by omega), if_pos (by omega), if_pos (by omega), hv, wrap_succ i (by omega)]
theorem sum_ev (x : ByteArray) (hx : x.size ≤ 1073741824) : ∃ r, Ev (fun k => spec_l1Sum.f k x) r ∧ Ev (fun k => impl_checksum.f k x) r ∧ 0 ≤ r ∧ r < 999979 := by
  obtain ⟨r, h1, h2, h3⟩ := sum_l0 x hx x.data.toList.length 0 7 (by omega) (by omega) (by omega)
  exact ⟨r, h1, h2, h3⟩
def sealR (x : ByteArray) (r : Int) : ByteArray := x ++ (⟨#[35]⟩ : ByteArray) ++ itoaB r
theorem sealR_size (x : ByteArray) (r : Int) (h0 : 0 ≤ r) (h1 : r < 999979) : x.size < (sealR x r).size ∧ (sealR x r).size ≤ x.size + 21 := by
  have := itoaB_size r (by omega) (by omega)
  unfold sealR
  rw [app_size, app_size, show (⟨#[35]⟩ : ByteArray).size = 1 from rfl]
  omega
theorem seal_ev (x : ByteArray) (hx : x.size ≤ 1073741824) {r : Int} (hr : Ev (fun k => spec_l1Sum.f k x) r) (h0 : 0 ≤ r) (h1 : r < 999979) : Ev (fun k => spec_l1Seal.f k x) (sealR x r) := by
  obtain ⟨K1, e1⟩ := hr
  obtain ⟨K2, e2⟩ := num_ev r (by omega) (by omega)
  have hz := itoaB_size r (by omega) (by omega)
  refine ⟨K1 + K2, fun k hk => ?_⟩
  have e1 := e1 k (by omega)
  have e2 := e2 k (by omega)
  dsimp only at e1 e2 ⊢
  rw [spec_l1Seal.f, if_pos (by omega), e1, Option.bind_some, e2, Option.bind_some, if_pos (by rw [app_size, show (⟨#[35]⟩ : ByteArray).size = 1 from rfl]; omega)]
  rfl
def apR (x : ByteArray) (r : Int) : ByteArray × Bool := if 4000 < x.size then (⟨#[]⟩, false) else if has x 35 = true then (⟨#[]⟩, false) else if 4000 < (sealR x r).size then (⟨#[]⟩, false) else (sealR x r, true)
theorem app_spec (x : ByteArray) (hx : x.size ≤ 1073741824) {r : Int} (hr : Ev (fun k => spec_l1Sum.f k x) r) (h0 : 0 ≤ r) (h1 : r < 999979) : Ev (fun k => spec_AppendChecksum.f k x) (apR x r) := by
  obtain ⟨K1, e1⟩ := seal_ev x hx hr h0 h1
  obtain ⟨K2, e2⟩ := stands_ev x 35 hx
  refine ⟨K1 + K2, fun k hk => ?_⟩
  have e1 := e1 k (by omega)
  have e2 := e2 k (by omega)
  dsimp only at e1 e2 ⊢
  have e2' : spec_l1Stands.f k x 35 = some (has x 35) := e2
  rw [spec_AppendChecksum.f]
  unfold apR
  by_cases h4 : 4000 < x.size
  · rw [if_pos (by omega), if_pos h4]
  · rw [if_neg (by omega), if_neg h4, e2', Option.bind_some]
    by_cases h5 : has x 35 = true
    · rw [if_pos h5, if_pos h5]
    · rw [if_neg h5, if_neg h5, e1, Option.bind_some]
      by_cases h6 : 4000 < (sealR x r).size
      · rw [if_pos (by omega), if_pos h6]
      · rw [if_neg (by omega), if_neg h6, Option.bind_some]
theorem app_impl (x : ByteArray) (hx : x.size ≤ 1073741824) {r : Int} (hr : Ev (fun k => impl_checksum.f k x) r) (h0 : 0 ≤ r) (h1 : r < 999979) : Ev (fun k => impl_AppendChecksum.f k x) (apR x r) := by
  obtain ⟨K1, e1⟩ := hr
  have hz := itoaB_size r (by omega) (by omega)
  refine ⟨K1 + 1, fun k hk => ?_⟩
  obtain ⟨k, rfl⟩ : ∃ j, k = j + 1 := ⟨k - 1, by omega⟩
  have e1 := e1 k (by omega)
  dsimp only at e1 ⊢
  rw [impl_AppendChecksum.f]
  unfold apR
  by_cases h4 : 4000 < x.size
  · rw [if_pos (by omega), if_pos h4, impl_AppendChecksum.j0, if_pos rfl]
  · rw [if_neg (by omega), if_neg h4, contains_eq x ⟨#[35]⟩ 35 rfl, Option.bind_some, impl_AppendChecksum.j0]
    by_cases h5 : has x 35 = true
    · rw [if_pos h5, if_pos h5]
    · rw [if_neg h5, if_neg h5, if_pos (by omega), e1, Option.bind_some, itoa_eq r (by omega) (by omega), Option.bind_some, if_pos (by rw [app_size, show (⟨#[35]⟩ : ByteArray).size = 1 from rfl]; omega)]
      by_cases h6 : 4000 < (sealR x r).size
      · rw [if_pos (show (((x ++ (⟨#[35]⟩ : ByteArray)) ++ itoaB r).size : Int) > 4000 from by have h7 := h6; unfold sealR at h7; omega), if_pos h6]
      · rw [if_neg (show ¬ (((x ++ (⟨#[35]⟩ : ByteArray)) ++ itoaB r).size : Int) > 4000 from by have h7 := h6; unfold sealR at h7; omega), if_neg h6]
        rfl
end Go.Proofs.YtlcikalgphafaaaDoor.P
