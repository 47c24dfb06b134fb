/- Plain lemmas: a memory that was marked is found marked. No program, no memory. -/
import Derived.Test.YtlcikalgphafaaaDoorPx9
import Derived.Test.YtlcikalgphafaaaDoorMkBytes
namespace Go.Proofs.YtlcikalgphafaaaDoor.P
open Go.RowKit Go.Proofs.YtlcikalgphafaaaDoorW.PrintWords Go.Proofs.YtlcikalgphafaaaDoorW.PrintLast Go.Proofs.YtlcikalgphafaaaDoorW.PrintMore
set_option linter.unusedVariables false
set_option linter.unusedSimpArgs false
theorem heldSS_l0 (m : List (List Int)) (a : Int) (hm : m.length ≤ 1048576) (ht : total m ≤ 1099511627776) (h0 : 0 ≤ a) (h1 : a ≤ 2199023255552) (d : Nat) : ∀ i : Nat, i + d = m.length →
    Ev (fun k => laws_heldByteSS.l0 k (rampSS m a) (a + total (m.take i)) (i : Int)) (a + total m) := by
  induction d with
  | zero =>
    intro i hi
    obtain rfl : i = m.length := by omega
    refine Ev.end_ (fun k => ?_)
    simp only [laws_heldByteSS.l0]
    rw [if_neg (by rw [rampSS_len]; omega)]
    simp
  | succ d ih =>
    intro i hi
    have hlt : i < m.length := by omega
    have hti := total_take_succ m i hlt
    have htl := total_take_le m (i + 1)
    have hr := rampSS_at m a i hlt
    have erd : rd_L1 (rampSS m a) (i : Int) = ramp8 (a + total (m.take i)) m[i].length := by
      unfold rd_L1
      rw [Int.toNat_natCast, List.getD_eq_getElem?_getD, hr]; rfl
    obtain ⟨K1, hK1⟩ := heldBytes (a + total (m.take i)) m[i].length (by omega) (by omega) (by omega)
    obtain ⟨K, hK⟩ := ih (i + 1) (by omega)
    refine ⟨K1 + K + 1, fun n hn => ?_⟩
    obtain ⟨k, rfl⟩ : ∃ k, n = k + 1 := ⟨n - 1, by omega⟩
    have e1 := hK1 k (by omega)
    have e2 := hK k (by omega)
    dsimp only at e1 e2 ⊢
    simp only [laws_heldByteSS.l0]
    rw [if_pos (by rw [rampSS_len]; omega), if_pos (by omega), erd, e1, Option.bind_some, if_neg (by omega), wrap_succ i (by omega)]
    rw [show a + (total (m.take i) : Int) + (m[i].length : Int) = a + (total (m.take (i + 1)) : Int) by omega]
    exact e2
theorem heldMem (m : List (List Int)) (a : Int) (hm : Small m) (h0 : 0 ≤ a) (h1 : a ≤ 2199023255552) : Ev (fun k => laws_heldMemory.f k (rampSS m a) a) (a + total m) := by
  obtain ⟨K, hK⟩ := heldSS_l0 m a hm.1 (total_small hm) h0 h1 m.length 0 (by omega)
  refine ⟨K, fun k hk => ?_⟩
  have h := hK k hk
  dsimp only at h ⊢
  rw [laws_heldMemory.f, laws_heldByteSS.f]
  have e : laws_heldByteSS.l0 k (rampSS m a) a 0 = some (a + total m) := by simpa [total] using h
  rw [e, Option.bind_some, if_neg (by omega)]
end Go.Proofs.YtlcikalgphafaaaDoor.P
