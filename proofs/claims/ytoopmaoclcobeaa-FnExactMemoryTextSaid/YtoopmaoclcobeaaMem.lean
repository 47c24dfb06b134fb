/- Plain lemmas on what the printed functions answer: the copies that a law makes (toMemory), how big they are (szMemory), that a memory equals itself (eqMemory), and that both IsMemory are one test. No program, no memory. -/
import Derived.Test.YtoopmaoclcobeaaPx5
import Derived.Test.YtoopmaoclcobeaaPx6
import Derived.Test.YtoopmaoclcobeaaPx7
import Derived.Test.YtoopmaoclcobeaaPx9
import Derived.Test.YtoopmaoclcobeaaPx1
import Derived.Test.YtoopmaoclcobeaaBase
namespace Go.Proofs.Ytoopmaoclcobeaa.P
open Go.RowKit Go.Proofs.YtoopmaoclcobeaaW.PrintWords Go.Proofs.YtoopmaoclcobeaaW.PrintLast Go.Proofs.YtoopmaoclcobeaaW.PrintMore
set_option linter.unusedVariables false
set_option linter.unusedSimpArgs false

def Fit (m : List (List Int)) : Prop := m.length ≤ 9223372036854775807 ∧ ∀ a ∈ m, a.length ≤ 9223372036854775807
def Small (m : List (List Int)) : Prop := m.length ≤ 1048576 ∧ ∀ a ∈ m, a.length ≤ 1048576
theorem Small.fit {m : List (List Int)} (h : Small m) : Fit m := ⟨by have := h.1; omega, fun a ha => by have := h.2 a ha; omega⟩

/-! ### how big -/
theorem szS_eq (l : List Int) (a : Int) (hl : l.length ≤ 9223372036854775807) (h0 : 0 ≤ a) (h1 : a ≤ 1048576) : laws_szByteS.f l a = some (if a < (l.length : Int) then -1 else a - (l.length : Int)) := by
  unfold laws_szByteS.f
  rw [wrap_in (x := a - (l.length : Int)) (by omega) (by omega)]
  by_cases h : a < (l.length : Int)
  · rw [if_pos (by omega), if_pos h]
  · rw [if_neg (by omega), if_neg h]
theorem szSS_l0 (m : List (List Int)) (hm : Fit m) (d : Nat) : ∀ (i : Nat) (a : Int), i + d = m.length → 0 ≤ a → a ≤ 1048576 →
    ∃ r, Ev (fun k => laws_szByteSS.l0 k m a (i : Int)) r ∧ (0 ≤ r → r ≤ a ∧ ∀ x ∈ m.drop i, x.length ≤ 1048576) := by
  induction d with
  | zero =>
    intro i a hi h0 h1
    refine ⟨a, Ev.end_ (fun k => ?_), fun _ => ⟨Int.le_refl _, fun x hx => ?_⟩⟩
    · simp only [laws_szByteSS.l0]; rw [if_neg (by omega)]
    · rw [List.drop_eq_nil_of_le (by omega)] at hx; cases hx
  | succ d ih =>
    intro i a hi h0 h1
    have hlt : i < m.length := by omega
    have hfit := hm.2 _ (getD_mem m [] i hlt)
    have hmax := hm.1
    by_cases hb : a < ((m.getD i []).length : Int)
    · refine ⟨-1, Ev.end_ (fun k => ?_), fun h => by omega⟩
      simp only [laws_szByteSS.l0, rd_L4, Int.toNat_natCast]
      rw [if_pos (by omega), if_pos (by omega), szS_eq _ _ hfit h0 h1, if_pos hb]
      rfl
    · obtain ⟨r, hr, hs⟩ := ih (i + 1) (a - ((m.getD i []).length : Int)) (by omega) (by omega) (by omega)
      refine ⟨r, Ev.step (fun k => ?_) hr, fun h => ?_⟩
      · simp only [laws_szByteSS.l0, rd_L4, Int.toNat_natCast]
        rw [if_pos (by omega), if_pos (by omega), szS_eq _ _ hfit h0 h1, if_neg hb]
        simp only [Option.bind_some]
        rw [if_neg (by omega), wrap_succ i (by omega)]
      · obtain ⟨h2, h3⟩ := hs h
        refine ⟨by omega, fun x hx => ?_⟩
        rw [drop_cons m [] i hlt] at hx
        rcases List.mem_cons.1 hx with rfl | hx
        · omega
        · exact h3 x hx
/-- szMemory: if it is not below zero, the memory is small. -/
theorem szMem (m : List (List Int)) (hm : Fit m) : ∃ r, Ev (fun k => laws_szMemory.f k m 1048576) r ∧ (¬ r < 0 → Small m ∧ r ≤ 1048576) := by
  have hmax := hm.1
  by_cases hb : (1048576 : Int) < (m.length : Int)
  · refine ⟨-1, ⟨0, fun k _ => ?_⟩, fun h => absurd (by omega) h⟩
    dsimp only
    unfold laws_szMemory.f laws_szByteSS.f
    rw [wrap_in (x := 1048576 - (m.length : Int)) (by omega) (by omega), if_pos (by omega)]
    rfl
  · obtain ⟨r, ⟨K, hK⟩, hs⟩ := szSS_l0 m hm m.length 0 (1048576 - (m.length : Int)) (by omega) (by omega) (by omega)
    refine ⟨if r < 0 then -1 else r, ⟨K, fun k hk => ?_⟩, fun h => ?_⟩
    · dsimp only
      unfold laws_szMemory.f laws_szByteSS.f
      have h1 := hK k hk
      simp only [Int.ofNat_zero, Int.natCast_zero] at h1
      rw [wrap_in (x := 1048576 - (m.length : Int)) (by omega) (by omega), if_neg (show ¬ (1048576 - (m.length : Int) < 0) by omega), h1]
      simp only [Option.bind_some]
      by_cases hr : r < 0
      · rw [if_pos hr, if_pos hr]
      · rw [if_neg hr, if_neg hr]
    · by_cases hr : r < 0
      · rw [if_pos hr] at h; exact absurd (by omega) h
      · rw [if_neg hr] at h ⊢
        obtain ⟨h2, h3⟩ := hs (by omega)
        exact ⟨⟨by omega, fun a ha => h3 a (by simpa using ha)⟩, by omega⟩

/-! ### copies -/
theorem set_take (x0 x3 : List Int) (i : Nat) (hi : i < x0.length) (hl : x3.length = x0.length) (ht : x3.take i = x0.take i) : (x3.set i (x0.getD i 0)).take (i + 1) = x0.take (i + 1) := by
  rw [List.take_succ_eq_append_getElem (by simpa using (by omega : i < x3.length)), List.take_succ_eq_append_getElem hi]
  congr 1
  · rw [List.take_set_of_le (Nat.le_refl _)]; exact ht
  · simp [List.getD_eq_getElem?_getD, List.getElem?_eq_getElem hi]
theorem toS_l0 (x0 : List Int) (hx : x0.length ≤ 9223372036854775807) (d : Nat) : ∀ (i : Nat) (x3 : List Int), i + d = x0.length → x3.length = x0.length → x3.take i = x0.take i →
    Ev (fun k => laws_toByteS.l0 k x0 x3 (i : Int)) x0 := by
  induction d with
  | zero =>
    intro i x3 hi hl ht
    have e : x3 = x0 := by
      rw [List.take_of_length_le (by omega), List.take_of_length_le (by omega)] at ht; exact ht
    subst e
    exact Ev.end_ (fun k => by simp only [laws_toByteS.l0]; rw [if_neg (by omega)])
  | succ d ih =>
    intro i x3 hi hl ht
    have hlt : i < x0.length := by omega
    refine Ev.step (fun k => ?_) (ih (i + 1) (x3.set i (x0.getD i 0)) (by omega) (by simpa using hl) (set_take x0 x3 i hlt hl ht))
    simp only [laws_toByteS.l0, rd, Int.toNat_natCast]
    rw [if_pos (by omega), if_pos (by omega), if_pos (by omega), wrap_succ i (by omega)]
theorem toS (x0 : List Int) (hx : x0.length ≤ 1048576) : Ev (fun k => laws_toByteS.f k x0) x0 := by
  obtain ⟨K, hK⟩ := toS_l0 x0 (by omega) x0.length 0 (List.replicate x0.length 0) (by omega) (by simp) (by simp)
  refine ⟨K, fun k hk => ?_⟩
  dsimp only
  unfold laws_toByteS.f
  rw [if_pos (by omega), if_pos (by simp; omega)]
  simpa using hK k hk
theorem set_takeL (x0 x3 : List (List Int)) (i : Nat) (hi : i < x0.length) (hl : x3.length = x0.length) (ht : x3.take i = x0.take i) : (x3.set i (x0.getD i [])).take (i + 1) = x0.take (i + 1) := by
  rw [List.take_succ_eq_append_getElem (by simpa using (by omega : i < x3.length)), List.take_succ_eq_append_getElem hi]
  congr 1
  · rw [List.take_set_of_le (Nat.le_refl _)]; exact ht
  · simp [List.getD_eq_getElem?_getD, List.getElem?_eq_getElem hi]
theorem toSS_l0 (x0 : List (List Int)) (hx : Small x0) (d : Nat) : ∀ (i : Nat) (x3 : List (List Int)), i + d = x0.length → x3.length = x0.length → x3.take i = x0.take i →
    Ev (fun k => laws_toByteSS.l0 k x0 x3 (i : Int)) x0 := by
  have hmax := hx.1
  induction d with
  | zero =>
    intro i x3 hi hl ht
    have e : x3 = x0 := by
      rw [List.take_of_length_le (by omega), List.take_of_length_le (by omega)] at ht; exact ht
    subst e
    exact Ev.end_ (fun k => by simp only [laws_toByteSS.l0]; rw [if_neg (by omega)])
  | succ d ih =>
    intro i x3 hi hl ht
    have hlt : i < x0.length := by omega
    obtain ⟨K1, h1⟩ := toS (x0.getD i []) (hx.2 _ (getD_mem x0 [] i hlt))
    obtain ⟨K2, h2⟩ := ih (i + 1) (x3.set i (x0.getD i [])) (by omega) (by simpa using hl) (set_takeL x0 x3 i hlt hl ht)
    refine ⟨K1 + K2 + 1, fun n hn => ?_⟩
    obtain ⟨k, rfl⟩ : ∃ k, n = k + 1 := ⟨n - 1, by omega⟩
    have e1 := h1 k (by omega)
    have e2 := h2 k (by omega)
    dsimp only at e1 e2 ⊢
    simp only [laws_toByteSS.l0, rd_L4, Int.toNat_natCast]
    rw [if_pos (by omega), if_pos (by omega), e1]
    simp only [Option.bind_some]
    rw [if_pos (by omega), wrap_succ i (by omega)]
    exact e2
theorem toMem (m : List (List Int)) (hm : Small m) : Ev (fun k => laws_toMemory.f k m) m := by
  have hmax := hm.1
  obtain ⟨K, hK⟩ := toSS_l0 m hm m.length 0 (List.replicate m.length []) (by omega) (by simp) (by simp)
  refine ⟨K, fun k hk => ?_⟩
  have h1 := hK k hk
  simp only [Int.ofNat_zero, Int.natCast_zero] at h1
  dsimp only
  unfold laws_toMemory.f laws_toByteSS.f
  rw [if_pos (by omega), if_pos (by simp; omega), Int.toNat_natCast, h1]
  rfl

/-! ### a memory equals itself -/
theorem eqS_l0 (a : List Int) (h : a.length ≤ 9223372036854775807) (d : Nat) : ∀ i : Nat, i + d = a.length → Ev (fun k => laws_eqByteS.l0 k a a (i : Int)) true := by
  induction d with
  | zero => intro i hi; exact Ev.end_ (fun k => by simp only [laws_eqByteS.l0]; rw [if_neg (by omega)])
  | succ d ih =>
    intro i hi
    refine Ev.step (fun k => ?_) (ih (i + 1) (by omega))
    simp only [laws_eqByteS.l0]
    rw [if_pos (by omega), if_pos (by omega), if_pos (by omega), wrap_succ i (by omega)]
    simp
theorem eqS (a : List Int) (h : a.length ≤ 9223372036854775807) : Ev (fun k => laws_eqByteS.f k a a) true := by
  obtain ⟨K, hK⟩ := eqS_l0 a h a.length 0 (by omega)
  exact ⟨K, fun k hk => by dsimp only; unfold laws_eqByteS.f; rw [if_pos rfl]; exact hK k hk⟩
theorem eqSS_l0 (m : List (List Int)) (hm : Fit m) (d : Nat) : ∀ i : Nat, i + d = m.length → Ev (fun k => laws_eqByteSS.l0 k m m (i : Int)) true := by
  have hmax := hm.1
  induction d with
  | zero => intro i hi; exact Ev.end_ (fun k => by simp only [laws_eqByteSS.l0]; rw [if_neg (by omega)])
  | succ d ih =>
    intro i hi
    have hlt : i < m.length := by omega
    obtain ⟨K1, h1⟩ := eqS (m.getD i []) (hm.2 _ (getD_mem m [] i hlt))
    obtain ⟨K2, h2⟩ := ih (i + 1) (by omega)
    refine ⟨K1 + K2 + 1, fun n hn => ?_⟩
    obtain ⟨k, rfl⟩ : ∃ k, n = k + 1 := ⟨n - 1, by omega⟩
    have e1 := h1 k (by omega)
    have e2 := h2 k (by omega)
    dsimp only at e1 e2 ⊢
    simp only [laws_eqByteSS.l0, rd_L4, Int.toNat_natCast]
    rw [if_pos (by omega), if_pos (by omega), if_pos (by omega), e1]
    simp only [Option.bind_some, if_true]
    rw [wrap_succ i (by omega)]
    exact e2
theorem eqMem (m : List (List Int)) (hm : Fit m) : Ev (fun k => laws_eqMemory.f k m m) true := by
  obtain ⟨K, hK⟩ := eqSS_l0 m hm m.length 0 (by omega)
  refine ⟨K, fun k hk => ?_⟩
  have h1 := hK k hk
  simp only [Int.ofNat_zero, Int.natCast_zero] at h1
  dsimp only
  unfold laws_eqMemory.f laws_eqByteSS.f
  rw [if_pos rfl, h1]
  rfl

/-! ### both IsMemory -/
def okA (a : List Int) : Bool := inB (a.length : Int) 1 64
def memOk (m : List (List Int)) : Bool := m.all okA && decide ((m.length : Int) ≤ 16)
theorem isMem_l0 (m : List (List Int)) (hm : m.length ≤ 9223372036854775807) (d : Nat) : ∀ i : Nat, i + d = m.length →
    Ev (fun k => impl_IsMemory.l0 k m (m.length : Int) (i : Int) m) ((m.drop i).all okA && decide ((m.length : Int) ≤ 16)) := by
  induction d with
  | zero =>
    intro i hi
    refine Ev.end_ (fun k => ?_)
    simp only [impl_IsMemory.l0]; rw [if_neg (by omega), List.drop_eq_nil_of_le (by omega)]; rfl
  | succ d ih =>
    intro i hi
    have hlt : i < m.length := by omega
    rw [drop_cons m [] i hlt, List.all_cons]
    cases hb : okA (m.getD i []) with
    | false =>
      refine Ev.end_ (fun k => ?_)
      simp only [impl_IsMemory.l0, rd_L4, Int.toNat_natCast]
      rw [if_pos (by omega), if_pos (by omega), if_pos (by omega), within_eq, show inB ((m.getD i []).length : Int) 1 64 = false from hb]
      rfl
    | true =>
      simp only [Bool.true_and]
      refine Ev.step (fun k => ?_) (ih (i + 1) (by omega))
      simp only [impl_IsMemory.l0, rd_L4, Int.toNat_natCast]
      rw [if_pos (by omega), if_pos (by omega), if_pos (by omega), within_eq, show inB ((m.getD i []).length : Int) 1 64 = true from hb, wrap_succ i (by omega)]
      rfl
theorem isMem (m : List (List Int)) (hm : m.length ≤ 9223372036854775807) : Ev (fun k => impl_IsMemory.f k m) (memOk m) := by
  obtain ⟨K, hK⟩ := isMem_l0 m hm m.length 0 (by omega)
  exact ⟨K, fun k hk => by have := hK k hk; simpa [impl_IsMemory.f, memOk] using this⟩
theorem l2Mem_l0 (m : List (List Int)) (hm : m.length ≤ 9223372036854775807) (d : Nat) : ∀ i : Nat, i + d = m.length → i ≤ 17 →
    Ev (fun k => spec_l2Memory.l0 k (i : Int) m) ((m.drop i).all okA && decide ((m.length : Int) ≤ 16)) := by
  induction d with
  | zero =>
    intro i hi h17
    refine ⟨2, fun n hn => ?_⟩
    obtain ⟨k, rfl⟩ : ∃ k, n = k + 2 := ⟨n - 2, by omega⟩
    simp only [spec_l2Memory.l0]
    rw [if_neg (by omega)]
    simp only [spec_l2Memory.j1]
    rw [if_neg (by simp), List.drop_eq_nil_of_le (by omega)]; rfl
  | succ d ih =>
    intro i hi h17
    have hlt : i < m.length := by omega
    by_cases hi17 : i = 17
    · refine ⟨2, fun n hn => ?_⟩
      obtain ⟨k, rfl⟩ : ∃ k, n = k + 2 := ⟨n - 2, by omega⟩
      simp only [spec_l2Memory.l0]
      rw [if_pos (by omega), show decide ((i : Int) ≤ 16) = false from decide_eq_false (by omega)]
      simp only [spec_l2Memory.j1]
      rw [if_neg (by simp), show decide ((m.length : Int) ≤ 16) = false from decide_eq_false (by omega), Bool.and_false]
    · rw [drop_cons m [] i hlt, List.all_cons]
      cases hb : okA (m.getD i []) with
      | false =>
        refine ⟨2, fun n hn => ?_⟩
        obtain ⟨k, rfl⟩ : ∃ k, n = k + 2 := ⟨n - 2, by omega⟩
        simp only [spec_l2Memory.l0]
        rw [if_pos (by omega), show decide ((i : Int) ≤ 16) = true from decide_eq_true (by omega)]
        simp only [spec_l2Memory.j1, rd_L4, Int.toNat_natCast]
        rw [if_pos trivial, if_pos (by omega), if_pos (by omega), l1In_eq, show inB ((m.getD i []).length : Int) 1 64 = false from hb]
        rfl
      | true =>
        simp only [Bool.true_and]
        obtain ⟨K, hK⟩ := ih (i + 1) (by omega) (by omega)
        refine ⟨K + 2, fun n hn => ?_⟩
        obtain ⟨k, rfl⟩ : ∃ k, n = k + 2 := ⟨n - 2, by omega⟩
        simp only [spec_l2Memory.l0]
        rw [if_pos (by omega), show decide ((i : Int) ≤ 16) = true from decide_eq_true (by omega)]
        simp only [spec_l2Memory.j1, rd_L4, Int.toNat_natCast]
        rw [if_pos trivial, if_pos (by omega), if_pos (by omega), l1In_eq, show inB ((m.getD i []).length : Int) 1 64 = true from hb, wrap_succ i (by omega)]
        exact hK k (by omega)
theorem l2Mem (m : List (List Int)) (hm : m.length ≤ 9223372036854775807) : Ev (fun k => spec_l2Memory.f k m) (memOk m) := by
  obtain ⟨K, hK⟩ := l2Mem_l0 m hm m.length 0 (by omega) (by omega)
  exact ⟨K, fun k hk => by have := hK k hk; simpa [spec_l2Memory.f, memOk] using this⟩
theorem memOk_len {m : List (List Int)} (h : memOk m = true) : m.length ≤ 16 := by
  unfold memOk at h
  rw [Bool.and_eq_true, decide_eq_true_eq] at h
  omega
theorem memOk_each {m : List (List Int)} (h : memOk m = true) (a : List Int) (ha : a ∈ m) : 1 ≤ a.length ∧ a.length ≤ 64 := by
  unfold memOk at h
  rw [Bool.and_eq_true, List.all_eq_true] at h
  have := h.1 a ha
  unfold okA inB at this
  have := of_decide_eq_true this
  omega
end Go.Proofs.Ytoopmaoclcobeaa.P
