/- Plain lemmas: rows of texts that a law marks, and finds marked; equal rows of texts. No program, no memory. -/
import Derived.Test.YtoopmaoclcobeaaDoorPx11
import Derived.Test.YtoopmaoclcobeaaDoorPx1
import Derived.Test.YtoopmaoclcobeaaDoorBase
import Derived.Test.YtoopmaoclcobeaaDoorStrQ
import Derived.Test.YtoopmaoclcobeaaDoorTexts
namespace Go.Proofs.YtoopmaoclcobeaaDoor.P
open Go.RowKit Go.Proofs.YtoopmaoclcobeaaDoorW.PrintWords Go.Proofs.YtoopmaoclcobeaaDoorW.PrintLast Go.Proofs.YtoopmaoclcobeaaDoorW.PrintMore
set_option linter.unusedVariables false
set_option linter.unusedSimpArgs false
theorem eqT_l0 (x : List ByteArray) (hx : x.length ≤ 1048576) (d : Nat) : ∀ i : Nat, i + d = x.length → Ev (fun k => laws_eqStringS.l0 k x x (i : Int)) true := by
  induction d with
  | zero =>
    intro i hi
    exact Ev.end_ (fun k => by rw [laws_eqStringS.l0, if_neg (by omega)])
  | succ d ih =>
    intro i hi
    refine Ev.step (fun k => ?_) (ih (i + 1) (by omega))
    rw [laws_eqStringS.l0, if_pos (by omega), if_pos (by omega), if_pos (by omega), if_pos rfl, wrap_succ i (by omega)]
theorem eqT (x : List ByteArray) (hx : x.length ≤ 1048576) : Ev (fun k => laws_eqStringS.f k x x) true := by
  obtain ⟨K, hK⟩ := eqT_l0 x hx x.length 0 (by omega)
  refine ⟨K, fun k hk => ?_⟩
  have h1 := hK k hk
  dsimp only at h1 ⊢
  unfold laws_eqStringS.f
  rw [if_pos rfl]
  exact h1
theorem mt_l0 : ∀ (m u : Nat) (x : ByteArray), u ≤ m → u + x.size ≤ 1099511627776 → ∃ t, Ev (fun k => laws_markText.l0 k (u : Int) x) t := by
  intro m
  induction m with
  | zero =>
    intro u x h h2
    exact ⟨_, Ev.end_ (fun k => by rw [laws_markText.l0, if_neg (by omega), if_pos (by omega)])⟩
  | succ m ih =>
    intro u x h h2
    by_cases h0 : u = 0
    · exact ⟨_, Ev.end_ (fun k => by rw [laws_markText.l0, if_neg (by omega), if_pos (by omega)])⟩
    · have hz : ∀ y : Int, (strOfNums [y]).size = 1 := fun y => rfl
      have ht : Int.tdiv (u : Int) 10 = ((u / 10 : Nat) : Int) := by rw [Int.tdiv_eq_ediv_of_nonneg (by omega)]; omega
      obtain ⟨t, K, hK⟩ := ih (u / 10) (strOfNums [(wrap64 (48 + (Int.tmod (u : Int) 10))) % 256] ++ x) (by omega) (by rw [app_size, hz]; omega)
      refine ⟨t, K + 1, fun k hk => ?_⟩
      obtain ⟨k, rfl⟩ : ∃ j, k = j + 1 := ⟨k - 1, by omega⟩
      have e := hK k (by omega)
      dsimp only at e ⊢
      rw [laws_markText.l0, if_pos (by omega), Option.bind_some, if_pos (by rw [hz]; omega), ht, wrap_in (x := ((u / 10 : Nat) : Int)) (by omega) (by omega), e]
theorem mt_ev (n : Nat) (h : n ≤ 2097152) : ∃ t, Ev (fun k => laws_markText.f k (n : Int)) t := by
  by_cases h0 : n = 0
  · exact ⟨_, 0, fun k _ => by dsimp only; rw [laws_markText.f, if_pos (by omega)]⟩
  · obtain ⟨t, K, hK⟩ := mt_l0 n n ⟨#[]⟩ (Nat.le_refl _) (by show n + 0 ≤ _; omega)
    refine ⟨t, K, fun k hk => ?_⟩
    have e := hK k hk
    dsimp only at e ⊢
    rw [laws_markText.f, if_neg (by omega), e]
/-- The text of a mark. -/
noncomputable def mtx (n : Nat) : ByteArray := if h : n ≤ 2097152 then Classical.choose (mt_ev n h) else ⟨#[]⟩
theorem mtx_ev (n : Nat) (h : n ≤ 2097152) : Ev (fun k => laws_markText.f k (n : Int)) (mtx n) := by
  unfold mtx
  rw [dif_pos h]
  exact Classical.choose_spec (mt_ev n h)
noncomputable def rampT (n : Nat) : List ByteArray := (List.range n).map fun (i : Nat) => mtx (1 + i)
theorem rampT_len (n : Nat) : (rampT n).length = n := by simp [rampT]
theorem rampT_succ (n : Nat) : rampT (n + 1) = rampT n ++ [mtx (1 + n)] := by simp [rampT, List.range_succ]
theorem markT_l0 (l : List ByteArray) (hl : l.length ≤ 1048576) (d : Nat) : ∀ i : Nat, i + d = l.length →
    Ev (fun k => laws_markStringS.l0 k (rampT i ++ l.drop i) ((1 + i : Nat) : Int) (i : Int)) (((1 + l.length : Nat) : Int), rampT l.length) := by
  induction d with
  | zero =>
    intro i hi
    obtain rfl : i = l.length := by omega
    refine Ev.end_ (fun k => ?_)
    simp only [laws_markStringS.l0]
    rw [if_neg (by simp [rampT_len])]
    simp
  | succ d ih =>
    intro i hi
    have hlt : i < l.length := by omega
    have e : (rampT i ++ l.drop i).set i (mtx (1 + i)) = rampT (i + 1) ++ l.drop (i + 1) := by
      rw [List.drop_eq_getElem_cons hlt, List.set_append_right _ _ (by rw [rampT_len]; exact Nat.le_refl _), rampT_succ, rampT_len, Nat.sub_self, List.set_cons_zero, List.append_assoc]
      rfl
    obtain ⟨K, hK⟩ := ih (i + 1) (by omega)
    obtain ⟨K2, hK2⟩ := mtx_ev (1 + i) (by omega)
    refine ⟨K + K2 + 1, fun n hn => ?_⟩
    obtain ⟨k, rfl⟩ : ∃ k, n = k + 1 := ⟨n - 1, by omega⟩
    have e2 := hK k (by omega)
    have e3 := hK2 k (by omega)
    dsimp only at e2 e3 ⊢
    simp only [laws_markStringS.l0]
    rw [if_pos (by simp [rampT_len]; omega), e3, Option.bind_some, if_pos (by omega), Int.toNat_natCast, e, wrap_succ (1 + i) (by omega), wrap_succ i (by omega)]
    rw [show 1 + i + 1 = 1 + (i + 1) by omega]
    exact e2
theorem markT (l : List ByteArray) (hl : l.length ≤ 1048576) : Ev (fun k => laws_markStringS.f k l 1) (((1 + l.length : Nat) : Int), rampT l.length) := by
  obtain ⟨K, hK⟩ := markT_l0 l hl l.length 0 (by omega)
  refine ⟨K, fun k hk => ?_⟩
  have := hK k hk
  simpa [laws_markStringS.f, rampT] using this
theorem heldT_l0 (m : Nat) (hm : m ≤ 1048576) (d : Nat) : ∀ i : Nat, i + d = m →
    Ev (fun k => laws_heldStringS.l0 k (rampT m) ((1 + i : Nat) : Int) (i : Int)) ((1 + m : Nat) : Int) := by
  induction d with
  | zero =>
    intro i hi
    obtain rfl : i = m := by omega
    refine Ev.end_ (fun k => ?_)
    simp only [laws_heldStringS.l0]
    rw [if_neg (by simp [rampT_len])]
  | succ d ih =>
    intro i hi
    have hlt : i < m := by omega
    have e : rdOf ByteArray.empty (rampT m) (i : Int) = mtx (1 + i) := by
      unfold rdOf
      rw [Int.toNat_natCast, List.getD_eq_getElem?_getD, List.getElem?_eq_getElem (by rw [rampT_len]; exact hlt)]
      simp [rampT]
    obtain ⟨K, hK⟩ := ih (i + 1) (by omega)
    obtain ⟨K2, hK2⟩ := mtx_ev (1 + i) (by omega)
    refine ⟨K + K2 + 1, fun n hn => ?_⟩
    obtain ⟨k, rfl⟩ : ∃ k, n = k + 1 := ⟨n - 1, by omega⟩
    have e2 := hK k (by omega)
    have e3 := hK2 k (by omega)
    dsimp only at e2 e3 ⊢
    simp only [laws_heldStringS.l0]
    rw [if_pos (by rw [rampT_len]; omega), if_pos (by omega), e3, Option.bind_some, if_pos (by rw [e]), wrap_succ (1 + i) (by omega), wrap_succ i (by omega)]
    rw [show 1 + i + 1 = 1 + (i + 1) by omega]
    exact e2
theorem heldT (m : Nat) (hm : m ≤ 1048576) : Ev (fun k => laws_heldStringS.f k (rampT m) 1) ((1 + m : Nat) : Int) := by
  obtain ⟨K, hK⟩ := heldT_l0 m hm m 0 (by omega)
  refine ⟨K, fun k hk => ?_⟩
  have := hK k hk
  simpa [laws_heldStringS.f] using this
end Go.Proofs.YtoopmaoclcobeaaDoor.P
