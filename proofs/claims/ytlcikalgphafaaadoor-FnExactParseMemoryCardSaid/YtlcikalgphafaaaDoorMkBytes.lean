/- Plain lemmas: rows of bytes, memories and windows that a law marks, and finds marked. No program, no memory. -/
import Derived.Test.YtlcikalgphafaaaDoorPx8
import Derived.Test.YtlcikalgphafaaaDoorMarks
import Derived.Test.YtlcikalgphafaaaDoorBase
import Derived.Test.YtlcikalgphafaaaDoorMemQ
namespace Go.Proofs.YtlcikalgphafaaaDoor.P
open Go.RowKit Go.Proofs.YtlcikalgphafaaaDoorW.PrintWords Go.Proofs.YtlcikalgphafaaaDoorW.PrintLast Go.Proofs.YtlcikalgphafaaaDoorW.PrintMore
set_option linter.unusedVariables false
set_option linter.unusedSimpArgs false
def ramp8 (a : Int) (n : Nat) : List Int := (List.range n).map fun (i : Nat) => (a + (i : Int)) % 256
theorem ramp8_len (a : Int) (n : Nat) : (ramp8 a n).length = n := by simp [ramp8]
theorem ramp8_succ (a : Int) (n : Nat) : ramp8 a (n + 1) = ramp8 a n ++ [(a + n) % 256] := by simp [ramp8, List.range_succ]
theorem markBytes_l0 (l : List Int) (a : Int) (hl : l.length ≤ 1099511627776) (h0 : 0 ≤ a) (h1 : a ≤ 4398046511104) (d : Nat) : ∀ i : Nat, i + d = l.length →
    Ev (fun k => laws_markByteS.l0 k (ramp8 a i ++ l.drop i) (a + i) (i : Int)) (a + l.length, ramp8 a l.length) := by
  induction d with
  | zero =>
    intro i hi
    obtain rfl : i = l.length := by omega
    refine Ev.end_ (fun k => ?_)
    simp only [laws_markByteS.l0]
    rw [if_neg (by simp [ramp8_len])]
    simp
  | succ d ih =>
    intro i hi
    have hlt : i < l.length := by omega
    have e : (ramp8 a i ++ l.drop i).set i ((a + i) % 256) = ramp8 a (i + 1) ++ l.drop (i + 1) := by
      rw [List.drop_eq_getElem_cons hlt, List.set_append_right _ _ (by rw [ramp8_len]; exact Nat.le_refl _), ramp8_succ, ramp8_len, Nat.sub_self, List.set_cons_zero, List.append_assoc]
      rfl
    obtain ⟨K, hK⟩ := ih (i + 1) (by omega)
    refine ⟨K + 1, fun n hn => ?_⟩
    obtain ⟨k, rfl⟩ : ∃ k, n = k + 1 := ⟨n - 1, by omega⟩
    have e2 := hK k (by omega)
    dsimp only at e2 ⊢
    simp only [laws_markByteS.l0]
    rw [if_pos (by simp [ramp8_len]; omega), if_pos (by omega), Int.toNat_natCast, e, wrap_in (x := a + i + 1) (by omega) (by omega), wrap_succ i (by omega)]
    rw [show a + (i : Int) + 1 = a + ((i + 1 : Nat) : Int) by omega]
    exact e2
theorem markBytes (l : List Int) (a : Int) (hl : l.length ≤ 1099511627776) (h0 : 0 ≤ a) (h1 : a ≤ 4398046511104) : Ev (fun k => laws_markByteS.f k l a) (a + l.length, ramp8 a l.length) := by
  obtain ⟨K, hK⟩ := markBytes_l0 l a hl h0 h1 l.length 0 (by omega)
  refine ⟨K, fun k hk => ?_⟩
  have := hK k hk
  simpa [laws_markByteS.f, ramp8] using this
theorem heldBytes_l0 (a : Int) (m : Nat) (hm : m ≤ 1099511627776) (h0 : 0 ≤ a) (h1 : a ≤ 4398046511104) (d : Nat) : ∀ i : Nat, i + d = m →
    Ev (fun k => laws_heldByteS.l0 k (ramp8 a m) (a + i) (i : Int)) (a + m) := by
  induction d with
  | zero =>
    intro i hi
    obtain rfl : i = m := by omega
    refine Ev.end_ (fun k => ?_)
    simp only [laws_heldByteS.l0]
    rw [if_neg (by simp [ramp8_len])]
  | succ d ih =>
    intro i hi
    have hlt : i < m := by omega
    have e : rd (ramp8 a m) (i : Int) = (a + i) % 256 := by
      unfold rd
      rw [Int.toNat_natCast, List.getD_eq_getElem?_getD, List.getElem?_eq_getElem (by rw [ramp8_len]; exact hlt)]
      simp [ramp8]
    obtain ⟨K, hK⟩ := ih (i + 1) (by omega)
    refine ⟨K + 1, fun n hn => ?_⟩
    obtain ⟨k, rfl⟩ : ∃ k, n = k + 1 := ⟨n - 1, by omega⟩
    have e2 := hK k (by omega)
    dsimp only at e2 ⊢
    simp only [laws_heldByteS.l0]
    rw [if_pos (by rw [ramp8_len]; omega), if_pos (by omega), if_pos e, wrap_in (x := a + i + 1) (by omega) (by omega), wrap_succ i (by omega)]
    rw [show a + (i : Int) + 1 = a + ((i + 1 : Nat) : Int) by omega]
    exact e2
theorem heldBytes (a : Int) (m : Nat) (hm : m ≤ 1099511627776) (h0 : 0 ≤ a) (h1 : a ≤ 4398046511104) : Ev (fun k => laws_heldByteS.f k (ramp8 a m) a) (a + m) := by
  obtain ⟨K, hK⟩ := heldBytes_l0 a m hm h0 h1 m 0 (by omega)
  refine ⟨K, fun k hk => ?_⟩
  have := hK k hk
  simpa [laws_heldByteS.f] using this
/-! ### memories -/
def total (m : List (List Int)) : Nat := (m.map List.length).sum
theorem total_small {m : List (List Int)} (h : Small m) : total m ≤ 1099511627776 := by
  obtain ⟨h1, h2⟩ := h
  have : ∀ m : List (List Int), (∀ a ∈ m, a.length ≤ 1048576) → total m ≤ m.length * 1048576 := by
    intro m
    induction m with
    | nil => intro _; simp [total]
    | cons a m ih =>
      intro h
      have h3 := h a List.mem_cons_self
      have h4 := ih (fun x hx => h x (List.mem_cons_of_mem _ hx))
      have e : total (a :: m) = a.length + total m := by simp [total]
      have e2 : (a :: m).length = m.length + 1 := rfl
      rw [e, e2]
      omega
  have := this m h2
  omega
/-- What the marks make of the rows from i on. -/
def rampSS : List (List Int) → Int → List (List Int)
  | [], _ => []
  | l :: ls, a => ramp8 a l.length :: rampSS ls (a + l.length)
theorem rampSS_len : ∀ (m : List (List Int)) (a : Int), (rampSS m a).length = m.length
  | [], _ => rfl
  | _ :: ls, a => by simp [rampSS, rampSS_len ls]
theorem rampSS_at : ∀ (m : List (List Int)) (a : Int) (j : Nat) (h : j < m.length), (rampSS m a)[j]? = some (ramp8 (a + total (m.take j)) m[j].length)
  | l :: ls, a, 0, h => by simp [rampSS, total]
  | l :: ls, a, j + 1, h => by
    have h' : j < ls.length := by simpa using h
    have := rampSS_at ls (a + l.length) j h'
    simp only [rampSS, List.getElem?_cons_succ, this, List.take_succ_cons, List.getElem_cons_succ]
    congr 2
    simp [total]
    omega
theorem total_append (a b : List (List Int)) : total (a ++ b) = total a + total b := by simp [total]
theorem total_take_succ (m : List (List Int)) (j : Nat) (h : j < m.length) : total (m.take (j + 1)) = total (m.take j) + m[j].length := by
  rw [List.take_succ_eq_append_getElem h, total_append]
  have e : total [m[j]] = m[j].length := by simp [total]
  rw [e]
theorem total_take_le (m : List (List Int)) (j : Nat) : total (m.take j) ≤ total m := by
  have e : total (m.take j ++ m.drop j) = total (m.take j) + total (m.drop j) := total_append _ _
  rw [List.take_append_drop] at e
  omega
theorem markSS_l0 (m : List (List Int)) (a : Int) (hm : m.length ≤ 1048576) (ht : total m ≤ 1099511627776) (h0 : 0 ≤ a) (h1 : a ≤ 2199023255552) (d : Nat) : ∀ i : Nat, i + d = m.length →
    Ev (fun k => laws_markByteSS.l0 k ((rampSS m a).take i ++ m.drop i) (a + total (m.take i)) (i : Int)) (a + total m, rampSS m a) := by
  induction d with
  | zero =>
    intro i hi
    obtain rfl : i = m.length := by omega
    refine Ev.end_ (fun k => ?_)
    simp only [laws_markByteSS.l0]
    have e1 : (rampSS m a).take m.length = rampSS m a := List.take_of_length_le (by rw [rampSS_len]; exact Nat.le_refl _)
    rw [if_neg (by simp [rampSS_len]), e1]
    simp
  | succ d ih =>
    intro i hi
    have hlt : i < m.length := by omega
    have hti := total_take_succ m i hlt
    have htl := total_take_le m (i + 1)
    have hr := rampSS_at m a i hlt
    have hl1 : ((rampSS m a).take i).length = i := by rw [List.length_take, rampSS_len]; omega
    have erd : rd_L1 ((rampSS m a).take i ++ m.drop i) (i : Int) = m[i] := by
      unfold rd_L1
      rw [Int.toNat_natCast, List.getD_eq_getElem?_getD, List.getElem?_append_right (by omega), hl1, Nat.sub_self, List.getElem?_drop]
      simp [List.getElem?_eq_getElem hlt]
    have e : ((rampSS m a).take i ++ m.drop i).set i (ramp8 (a + total (m.take i)) m[i].length) = (rampSS m a).take (i + 1) ++ m.drop (i + 1) := by
      rw [List.drop_eq_getElem_cons hlt, List.set_append_right _ _ (by omega), hl1, Nat.sub_self, List.set_cons_zero, List.take_add_one, hr, List.append_assoc]
      rfl
    obtain ⟨K1, hK1⟩ := markBytes m[i] (a + total (m.take i)) (by omega) (by omega) (by omega)
    obtain ⟨K, hK⟩ := ih (i + 1) (by omega)
    refine ⟨K1 + K + 1, fun n hn => ?_⟩
    obtain ⟨k, rfl⟩ : ∃ k, n = k + 1 := ⟨n - 1, by omega⟩
    have e1 := hK1 k (by omega)
    have e2 := hK k (by omega)
    dsimp only at e1 e2 ⊢
    simp only [laws_markByteSS.l0]
    rw [if_pos (by rw [List.length_append, hl1, List.length_drop]; omega), if_pos (by omega), erd, e1, Option.bind_some]
    dsimp only
    rw [Int.toNat_natCast, e, wrap_succ i (by omega)]
    rw [show a + (total (m.take i) : Int) + (m[i].length : Int) = a + (total (m.take (i + 1)) : Int) by omega]
    exact e2
theorem markMem (m : List (List Int)) (a : Int) (hm : Small m) (h0 : 0 ≤ a) (h1 : a ≤ 2199023255552) : Ev (fun k => laws_markMemory.f k m a) (a + total m, rampSS m a) := by
  obtain ⟨K, hK⟩ := markSS_l0 m a hm.1 (total_small hm) h0 h1 m.length 0 (by omega)
  refine ⟨K, fun k hk => ?_⟩
  have := hK k hk
  simpa [laws_markMemory.f, laws_markByteSS.f, total] using this
end Go.Proofs.YtlcikalgphafaaaDoor.P
