/- Plain lemmas: memories: small ones, equal ones, whether one is a memory. No program, no memory. -/
import Derived.Test.YtlcikalgphafaaaDoorPx8
import Derived.Test.YtlcikalgphafaaaDoorPx1
import Derived.Test.YtlcikalgphafaaaDoorPx4
import Derived.Test.YtlcikalgphafaaaDoorBase
namespace Go.Proofs.YtlcikalgphafaaaDoor.P
open Go.RowKit Go.Proofs.YtlcikalgphafaaaDoorW.PrintWords Go.Proofs.YtlcikalgphafaaaDoorW.PrintLast Go.Proofs.YtlcikalgphafaaaDoorW.PrintMore
set_option linter.unusedVariables false
set_option linter.unusedSimpArgs false

def Fit (m : List (List Int)) : Prop := m.length ≤ 9223372036854775807 ∧ ∀ a ∈ m, a.length ≤ 9223372036854775807
def Small (m : List (List Int)) : Prop := m.length ≤ 1048576 ∧ ∀ a ∈ m, a.length ≤ 1048576
theorem Small.fit {m : List (List Int)} (h : Small m) : Fit m := ⟨by have := h.1; omega, fun a ha => by have := h.2 a ha; omega⟩

/-! ### how big -/
theorem eqS_l0 (a : List Int) (h : a.length ≤ 9223372036854775807) (d : Nat) : ∀ i : Nat, i + d = a.length → Ev (fun k => laws_eqByteS.l0 k a a (i : Int)) true := by
  induction d with
  | zero => intro i hi; exact Ev.end_ (fun k => by simp only [laws_eqByteS.l0]; rw [if_neg (by omega)])
  | succ d ih =>
    intro i hi
    refine Ev.step (fun k => ?_) (ih (i + 1) (by omega))
    simp only [laws_eqByteS.l0]
    rw [if_pos (by omega), if_pos (by omega), if_pos (by omega), wrap_succ i (by omega)]
    simp
theorem eqS (a : List Int) (h : a.length ≤ 9223372036854775807) : Ev (fun k => laws_eqByteS.f k a a) true := by
  obtain ⟨K, hK⟩ := eqS_l0 a h a.length 0 (by omega)
  exact ⟨K, fun k hk => by dsimp only; unfold laws_eqByteS.f; rw [if_pos rfl]; exact hK k hk⟩
theorem eqSS_l0 (m : List (List Int)) (hm : Fit m) (d : Nat) : ∀ i : Nat, i + d = m.length → Ev (fun k => laws_eqByteSS.l0 k m m (i : Int)) true := by
  have hmax := hm.1
  induction d with
  | zero => intro i hi; exact Ev.end_ (fun k => by simp only [laws_eqByteSS.l0]; rw [if_neg (by omega)])
  | succ d ih =>
    intro i hi
    have hlt : i < m.length := by omega
    obtain ⟨K1, h1⟩ := eqS (m.getD i []) (hm.2 _ (getD_mem m [] i hlt))
    obtain ⟨K2, h2⟩ := ih (i + 1) (by omega)
    refine ⟨K1 + K2 + 1, fun n hn => ?_⟩
    obtain ⟨k, rfl⟩ : ∃ k, n = k + 1 := ⟨n - 1, by omega⟩
    have e1 := h1 k (by omega)
    have e2 := h2 k (by omega)
    dsimp only at e1 e2 ⊢
    simp only [laws_eqByteSS.l0, rd_L1, Int.toNat_natCast]
    rw [if_pos (by omega), if_pos (by omega), if_pos (by omega), e1]
    simp only [Option.bind_some, if_true]
    rw [wrap_succ i (by omega)]
    exact e2
theorem eqMem (m : List (List Int)) (hm : Fit m) : Ev (fun k => laws_eqMemory.f k m m) true := by
  obtain ⟨K, hK⟩ := eqSS_l0 m hm m.length 0 (by omega)
  refine ⟨K, fun k hk => ?_⟩
  have h1 := hK k hk
  simp only [Int.ofNat_zero, Int.natCast_zero] at h1
  dsimp only
  unfold laws_eqMemory.f laws_eqByteSS.f
  rw [if_pos rfl, h1]
  rfl

/-! ### both IsMemory -/
def okA (a : List Int) : Bool := inB (a.length : Int) 1 64
def memOk (m : List (List Int)) : Bool := m.all okA && decide ((m.length : Int) ≤ 16)
theorem isMem_l0 (m : List (List Int)) (hm : m.length ≤ 9223372036854775807) (d : Nat) : ∀ i : Nat, i + d = m.length →
    Ev (fun k => impl_IsMemory.l0 k m (m.length : Int) (i : Int) m) ((m.drop i).all okA && decide ((m.length : Int) ≤ 16)) := by
  induction d with
  | zero =>
    intro i hi
    refine Ev.end_ (fun k => ?_)
    simp only [impl_IsMemory.l0]; rw [if_neg (by omega), List.drop_eq_nil_of_le (by omega)]; rfl
  | succ d ih =>
    intro i hi
    have hlt : i < m.length := by omega
    rw [drop_cons m [] i hlt, List.all_cons]
    cases hb : okA (m.getD i []) with
    | false =>
      refine Ev.end_ (fun k => ?_)
      simp only [impl_IsMemory.l0, rd_L1, Int.toNat_natCast]
      rw [if_pos (by omega), if_pos (by omega), if_pos (by omega), within_eq, show inB ((m.getD i []).length : Int) 1 64 = false from hb]
      rfl
    | true =>
      simp only [Bool.true_and]
      refine Ev.step (fun k => ?_) (ih (i + 1) (by omega))
      simp only [impl_IsMemory.l0, rd_L1, Int.toNat_natCast]
      rw [if_pos (by omega), if_pos (by omega), if_pos (by omega), within_eq, show inB ((m.getD i []).length : Int) 1 64 = true from hb, wrap_succ i (by omega)]
      rfl
theorem isMem (m : List (List Int)) (hm : m.length ≤ 9223372036854775807) : Ev (fun k => impl_IsMemory.f k m) (memOk m) := by
  obtain ⟨K, hK⟩ := isMem_l0 m hm m.length 0 (by omega)
  exact ⟨K, fun k hk => by have := hK k hk; simpa [impl_IsMemory.f, memOk] using this⟩
theorem l2Mem_l0 (m : List (List Int)) (hm : m.length ≤ 9223372036854775807) (d : Nat) : ∀ i : Nat, i + d = m.length → i ≤ 17 →
    Ev (fun k => spec_l2Memory.l0 k (i : Int) m) ((m.drop i).all okA && decide ((m.length : Int) ≤ 16)) := by
  induction d with
  | zero =>
    intro i hi h17
    refine ⟨2, fun n hn => ?_⟩
    obtain ⟨k, rfl⟩ : ∃ k, n = k + 2 := ⟨n - 2, by omega⟩
    simp only [spec_l2Memory.l0]
    rw [if_neg (by omega)]
    simp only [spec_l2Memory.j1]
    rw [if_neg (by simp), List.drop_eq_nil_of_le (by omega)]; rfl
  | succ d ih =>
    intro i hi h17
    have hlt : i < m.length := by omega
    by_cases hi17 : i = 17
    · refine ⟨2, fun n hn => ?_⟩
      obtain ⟨k, rfl⟩ : ∃ k, n = k + 2 := ⟨n - 2, by omega⟩
      simp only [spec_l2Memory.l0]
      rw [if_pos (by omega), show decide ((i : Int) ≤ 16) = false from decide_eq_false (by omega)]
      simp only [spec_l2Memory.j1]
      rw [if_neg (by simp), show decide ((m.length : Int) ≤ 16) = false from decide_eq_false (by omega), Bool.and_false]
    · rw [drop_cons m [] i hlt, List.all_cons]
      cases hb : okA (m.getD i []) with
      | false =>
        refine ⟨2, fun n hn => ?_⟩
        obtain ⟨k, rfl⟩ : ∃ k, n = k + 2 := ⟨n - 2, by omega⟩
        simp only [spec_l2Memory.l0]
        rw [if_pos (by omega), show decide ((i : Int) ≤ 16) = true from decide_eq_true (by omega)]
        simp only [spec_l2Memory.j1, rd_L1, Int.toNat_natCast]
        rw [if_pos trivial, if_pos (by omega), if_pos (by omega), l1In_eq, show inB ((m.getD i []).length : Int) 1 64 = false from hb]
        rfl
      | true =>
        simp only [Bool.true_and]
        obtain ⟨K, hK⟩ := ih (i + 1) (by omega) (by omega)
        refine ⟨K + 2, fun n hn => ?_⟩
        obtain ⟨k, rfl⟩ : ∃ k, n = k + 2 := ⟨n - 2, by omega⟩
        simp only [spec_l2Memory.l0]
        rw [if_pos (by omega), show decide ((i : Int) ≤ 16) = true from decide_eq_true (by omega)]
        simp only [spec_l2Memory.j1, rd_L1, Int.toNat_natCast]
        rw [if_pos trivial, if_pos (by omega), if_pos (by omega), l1In_eq, show inB ((m.getD i []).length : Int) 1 64 = true from hb, wrap_succ i (by omega)]
        exact hK k (by omega)
theorem l2Mem (m : List (List Int)) (hm : m.length ≤ 9223372036854775807) : Ev (fun k => spec_l2Memory.f k m) (memOk m) := by
  obtain ⟨K, hK⟩ := l2Mem_l0 m hm m.length 0 (by omega) (by omega)
  exact ⟨K, fun k hk => by have := hK k hk; simpa [spec_l2Memory.f, memOk] using this⟩
theorem memOk_len {m : List (List Int)} (h : memOk m = true) : m.length ≤ 16 := by
  unfold memOk at h
  rw [Bool.and_eq_true, decide_eq_true_eq] at h
  omega
theorem memOk_each {m : List (List Int)} (h : memOk m = true) (a : List Int) (ha : a ∈ m) : 1 ≤ a.length ∧ a.length ≤ 64 := by
  unfold memOk at h
  rw [Bool.and_eq_true, List.all_eq_true] at h
  have := h.1 a ha
  unfold okA inB at this
  have := of_decide_eq_true this
  omega
end Go.Proofs.YtlcikalgphafaaaDoor.P
