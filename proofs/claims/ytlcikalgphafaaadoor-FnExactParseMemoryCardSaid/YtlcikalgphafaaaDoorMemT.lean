/- Plain lemmas: the text of a memory, both ways. No program, no memory. -/
import Derived.Test.YtlcikalgphafaaaDoorTexts
import Derived.Test.YtlcikalgphafaaaDoorStrQ
import Derived.Test.YtlcikalgphafaaaDoorMemQ
import Derived.Test.YtlcikalgphafaaaDoorStr
import Derived.Test.YtlcikalgphafaaaDoorPx2
import Derived.Test.YtlcikalgphafaaaDoorPx7
namespace Go.Proofs.YtlcikalgphafaaaDoor.P
open Go.RowKit Go.Proofs.YtlcikalgphafaaaDoorW.PrintWords Go.Proofs.YtlcikalgphafaaaDoorW.PrintLast Go.Proofs.YtlcikalgphafaaaDoorW.PrintMore
set_option linter.unusedVariables false
set_option linter.unusedSimpArgs false
def HEX : ByteArray := ⟨#[48, 49, 50, 51, 52, 53, 54, 55, 56, 57, 97, 98, 99, 100, 101, 102]⟩
def hx (n : Int) : UInt8 := HEX.data.toList.getD n.toNat 0
def hexL : List Int → List UInt8
  | [] => []
  | b :: bs => hx (b / 16) :: hx (b % 16) :: hexL bs
def hexB (r : List Int) : ByteArray := ⟨(hexL r).toArray⟩
theorem hexL_len : ∀ r : List Int, (hexL r).length = 2 * r.length
  | [] => rfl
  | b :: bs => by
    have := hexL_len bs
    simp only [hexL, List.length_cons]; omega
theorem bt_hx (n : Int) (h0 : 0 ≤ n) (h1 : n < 16) : bt (⟨#[48, 49, 50, 51, 52, 53, 54, 55, 56, 57, 97, 98, 99, 100, 101, 102]⟩ : ByteArray) n = ((hx n).toNat : Int) := by
  have h2 : ∀ k : Fin 16, bt (⟨#[48, 49, 50, 51, 52, 53, 54, 55, 56, 57, 97, 98, 99, 100, 101, 102]⟩ : ByteArray) ((k.val : Nat) : Int) = ((hx ((k.val : Nat) : Int)).toNat : Int) := by decide +kernel
  have h3 := h2 ⟨n.toNat, by omega⟩
  rwa [show ((n.toNat : Nat) : Int) = n by omega] at h3
theorem ex_hx (n : Int) (h0 : 0 ≤ n) (h1 : n < 16) : (⟨#[48, 49, 50, 51, 52, 53, 54, 55, 56, 57, 97, 98, 99, 100, 101, 102]⟩ : ByteArray).extract n.toNat (n + 1).toNat = ⟨#[hx n]⟩ := by
  have h2 : ∀ k : Fin 16, ((⟨#[48, 49, 50, 51, 52, 53, 54, 55, 56, 57, 97, 98, 99, 100, 101, 102]⟩ : ByteArray).extract k.val (k.val + 1)).data.toList = [hx ((k.val : Nat) : Int)] := by decide +kernel
  have h3 := h2 ⟨n.toNat, by omega⟩
  rw [show (n + 1).toNat = n.toNat + 1 by omega]
  apply ByteArray.ext
  apply Array.toList_inj.mp
  rw [h3]
  simp only [show ((n.toNat : Nat) : Int) = n by omega]
theorem and15 (b : Int) (h0 : 0 ≤ b) (h1 : b < 256) : Go.bits .and .u8 b 15 = b % 16 := by
  have h2 : ∀ k : Fin 256, Go.bits .and .u8 ((k.val : Nat) : Int) 15 = ((k.val : Nat) : Int) % 16 := by decide +kernel
  have h3 := h2 ⟨b.toNat, by omega⟩
  rwa [show ((b.toNat : Nat) : Int) = b by omega] at h3
theorem hexL_drop {r : List Int} {i : Nat} (h : i < r.length) : hexL (r.drop i) = hx (r[i] / 16) :: hx (r[i] % 16) :: hexL (r.drop (i + 1)) := by
  rw [List.drop_eq_getElem_cons h]; rfl
theorem nums_back (A : List UInt8) : strOfNums (A.map (fun u => (u.toNat : Int))) = ⟨A.toArray⟩ := by
  unfold strOfNums
  congr 1
  rw [List.map_map]
  congr 1
  conv => rhs; rw [← List.map_id A]
  apply List.map_congr_left
  intro u _
  simp
theorem rd_int {xs : List Int} {i : Nat} (h : i < xs.length) : rd xs (i : Int) = xs[i] := by
  unfold rd
  rw [Int.toNat_natCast, List.getD_eq_getElem?_getD, List.getElem?_eq_getElem h]; rfl
theorem hex_l0 (r : List Int) (hr : ∀ x ∈ r, 0 ≤ x ∧ x < 256) (hl : r.length ≤ 1048576) (d : Nat) : ∀ (i : Nat) (A : List UInt8), i + d = r.length → A.length ≤ 2 * i →
    Ev (fun k => impl_hexText.l0 k (A.map (fun u => (u.toNat : Int))) r (r.length : Int) (i : Int)) (⟨(A ++ hexL (r.drop i)).toArray⟩ : ByteArray) := by
  induction d with
  | zero =>
    intro i A hi hA
    refine Ev.end_ (fun k => ?_)
    rw [impl_hexText.l0, if_neg (by omega), List.drop_eq_nil_of_le (by omega), nums_back]
    simp [hexL]
  | succ d ih =>
    intro i A hi hA
    have hlt : i < r.length := by omega
    have hb := hr _ (List.getElem_mem hlt)
    have h1 : 0 ≤ r[i] / 16 ∧ r[i] / 16 < 16 := by omega
    have h2 : 0 ≤ r[i] % 16 ∧ r[i] % 16 < 16 := by omega
    refine Ev.step (fun k => ?_) (show Ev _ _ from (by
      have := ih (i + 1) (A ++ [hx (r[i] / 16), hx (r[i] % 16)]) (by omega) (by simp; omega)
      rwa [show A ++ [hx (r[i] / 16), hx (r[i] % 16)] ++ hexL (r.drop (i + 1)) = A ++ hexL (r.drop i) by rw [hexL_drop hlt]; simp] at this))
    rw [impl_hexText.l0, if_pos (by omega), if_pos (by omega), if_pos (by omega), rd_int hlt, and15 _ hb.1 hb.2, if_pos h1.1, if_pos h1.2, if_pos h2.1, if_pos h2.2, Option.bind_some, if_pos (by simp; omega), bt_hx _ h1.1 h1.2, bt_hx _ h2.1 h2.2, wrap_succ i (by omega)]
    simp
theorem hex_ev (r : List Int) (hr : ∀ x ∈ r, 0 ≤ x ∧ x < 256) (hl : r.length ≤ 1048576) : Ev (fun k => impl_hexText.f k r) (hexB r) := by
  have := hex_l0 r hr hl r.length 0 [] (by omega) (by simp)
  simpa [impl_hexText.f, hexB] using this
theorem hexB_size (r : List Int) : (hexB r).size = 2 * r.length := by
  rw [size_list]
  exact hexL_len r
def noneB : ByteArray := ⟨#[110, 111, 110, 101]⟩
def textR (m : List (List Int)) : ByteArray := if m.length = 0 then noneB else ⟨(Lib.join ((m.map hexB).map (·.data.toList)) [32]).toArray⟩
theorem rdL_get {m : List (List Int)} {i : Nat} (h : i < m.length) : rd_L1 m (i : Int) = m[i] := by
  unfold rd_L1
  rw [Int.toNat_natCast, List.getD_eq_getElem?_getD, List.getElem?_eq_getElem h]; rfl
theorem mtext_l0 (m : List (List Int)) (hm : m.length ≤ 1048576) (hr : ∀ r ∈ m, ∀ x ∈ r, 0 ≤ x ∧ x < 256) (hl : ∀ r ∈ m, r.length ≤ 64) (d : Nat) : ∀ i : Nat, i + d = m.length →
    Ev (fun k => impl_memoryText.l0 k ((m.take i).map hexB) m (m.length : Int) (i : Int)) (textR m) := by
  induction d with
  | zero =>
    intro i hi
    obtain rfl : i = m.length := by omega
    refine Ev.end_ (fun k => ?_)
    rw [impl_memoryText.l0, if_neg (by omega), List.take_length]
    unfold textR
    by_cases h0 : m.length = 0
    · rw [if_pos (by rw [List.length_map]; omega), if_pos h0]; rfl
    · rw [if_neg (by rw [List.length_map]; omega), if_neg h0]
      obtain ⟨x, xs, rfl⟩ : ∃ x xs, m = x :: xs := by
        cases m with
        | nil => exact absurd rfl h0
        | cons x xs => exact ⟨x, xs, rfl⟩
      have h1 : (Lib.join (((x :: xs).map hexB).map (·.data.toList)) [32]).length ≤ 140737488355328 := by
        rw [List.map_cons, join_jt, List.length_append, jt_len, ← size_list, hexB_size]
        have h2 := lenS_le (xs.map hexB) (fun y hy => by
          obtain ⟨r, hr1, rfl⟩ := List.mem_map.mp hy
          have := hl r (List.mem_cons_of_mem _ hr1)
          rw [hexB_size]; omega)
        have h3 := hl x List.mem_cons_self
        rw [List.length_map] at h2 ⊢
        simp only [List.length_cons] at hm
        have h5 : xs.length * 1048576 ≤ 1048576 * 1048576 := Nat.mul_le_mul_right _ (by omega)
        omega
      unfold strings_Join.f
      rw [if_pos ⟨by rw [List.length_map]; omega, h1⟩, Option.bind_some]
  | succ d ih =>
    intro i hi
    have hlt : i < m.length := by omega
    obtain ⟨K1, e1⟩ := hex_ev m[i] (hr _ (List.getElem_mem hlt)) (by have := hl _ (List.getElem_mem hlt); omega)
    obtain ⟨K2, e2⟩ := ih (i + 1) (by omega)
    refine ⟨K1 + K2 + 1, fun k hk => ?_⟩
    obtain ⟨k, rfl⟩ : ∃ j, k = j + 1 := ⟨k - 1, by omega⟩
    have e1 := e1 k (by omega)
    have e2 := e2 k (by omega)
    dsimp only at e1 e2 ⊢
    rw [List.take_succ_eq_append_getElem hlt, List.map_append] at e2
    rw [impl_memoryText.l0, if_pos (by omega), if_pos (by omega), if_pos (by omega), rdL_get hlt, e1, Option.bind_some, if_pos (by rw [List.length_map, List.length_take]; omega), wrap_succ i (by omega)]
    exact e2
theorem mtext_ev (m : List (List Int)) (hm : m.length ≤ 1048576) (hr : ∀ r ∈ m, ∀ x ∈ r, 0 ≤ x ∧ x < 256) (hl : ∀ r ∈ m, r.length ≤ 64) : Ev (fun k => impl_memoryText.f k m) (textR m) := by
  have := mtext_l0 m hm hr hl m.length 0 (by omega)
  simpa [impl_memoryText.f] using this
theorem hexc (n : Int) (h0 : 0 ≤ n) (h1 : n < 16) : spec_l2Hex.f n = some ⟨#[hx n]⟩ := by
  unfold spec_l2Hex.f
  rw [wrap_in (x := n + 1) (by omega) (by omega), if_pos h0, if_pos (by omega), if_pos (by omega), ex_hx n h0 h1]
theorem l1_ev (m : List (List Int)) (a : Nat) (ha : a < m.length) (hr : ∀ x ∈ m[a], 0 ≤ x ∧ x < 256) (hl : m[a].length ≤ 64) (R : ByteArray) (d : Nat) : ∀ (i : Nat) (out : ByteArray), i + d = m[a].length → out.size ≤ 1099511627776 + 2 * i →
    Ev (fun k => spec_l2Text.l0 k (⟨(out.data.toList ++ hexL (m[a].drop i)).toArray⟩ : ByteArray) (wrap64 ((a : Int) + 1)) m) R → Ev (fun k => spec_l2Text.l1 k out (a : Int) (i : Int) m) R := by
  induction d with
  | zero =>
    intro i out hi ho hR
    refine Ev.step (fun k => ?_) hR
    rw [spec_l2Text.l1, if_pos (by omega), if_pos (by omega), rdL_get ha, if_neg (by omega), List.drop_eq_nil_of_le (by omega)]
    simp [hexL]
  | succ d ih =>
    intro i out hi ho hR
    have hlt : i < m[a].length := by omega
    have hb := hr _ (List.getElem_mem hlt)
    have h1 : 0 ≤ m[a][i] / 16 ∧ m[a][i] / 16 < 16 := by omega
    have h2 : 0 ≤ m[a][i] % 16 ∧ m[a][i] % 16 < 16 := by omega
    have hs1 : (out ++ (⟨#[hx (m[a][i] / 16)]⟩ : ByteArray)).size = out.size + 1 := by rw [app_size]; rfl
    have hs2 : (out ++ (⟨#[hx (m[a][i] / 16)]⟩ : ByteArray) ++ (⟨#[hx (m[a][i] % 16)]⟩ : ByteArray)).size = out.size + 2 := by rw [app_size, hs1]; rfl
    have hd : (out ++ (⟨#[hx (m[a][i] / 16)]⟩ : ByteArray) ++ (⟨#[hx (m[a][i] % 16)]⟩ : ByteArray)).data.toList ++ hexL (m[a].drop (i + 1)) = out.data.toList ++ hexL (m[a].drop i) := by
      rw [app_list, app_list, hexL_drop hlt]; simp
    refine Ev.step (fun k => ?_) (ih (i + 1) (out ++ (⟨#[hx (m[a][i] / 16)]⟩ : ByteArray) ++ (⟨#[hx (m[a][i] % 16)]⟩ : ByteArray)) (by omega) (by omega) (by rw [hd]; exact hR))
    have ht : Int.tdiv (m[a][i]) 16 = m[a][i] / 16 := Int.tdiv_eq_ediv_of_nonneg hb.1
    have ht2 : Int.tmod (m[a][i]) 16 = m[a][i] % 16 := Int.tmod_eq_emod_of_nonneg hb.1
    rw [spec_l2Text.l1, if_pos (by omega), if_pos (by omega), rdL_get ha, if_pos (by omega), if_pos (by omega), rd_int hlt, wrap_in (x := m[a][i]) (by omega) (by omega), ht, wrap_in (x := m[a][i] / 16) (by omega) (by omega), hexc _ h1.1 h1.2, Option.bind_some, if_pos (by show out.size + 1 ≤ _; omega), ht2, hexc _ h2.1 h2.2, Option.bind_some, if_pos (by rw [hs1]; show out.size + 1 + 1 ≤ _; omega), wrap_succ i (by omega)]
theorem ltext_l0 (m : List (List Int)) (hm : m.length ≤ 1048576) (hr : ∀ r ∈ m, ∀ x ∈ r, 0 ≤ x ∧ x < 256) (hl : ∀ r ∈ m, r.length ≤ 64) (d : Nat) : ∀ (a : Nat) (out : ByteArray), a + d = m.length → 1 ≤ a → 1 ≤ out.size → out.size ≤ 200 * a →
    Ev (fun k => spec_l2Text.l0 k out (a : Int) m) (⟨(out.data.toList ++ jt 32 ((m.drop a).map hexB)).toArray⟩ : ByteArray) := by
  induction d with
  | zero =>
    intro a out ha h1 h2 h3
    refine Ev.end_ (fun k => ?_)
    have hne : ¬ out.toList = ([] : List UInt8) := by
      rw [ByteArray.toList_eq]
      intro q
      have := size_list out
      rw [q, List.length_nil] at this
      omega
    rw [spec_l2Text.l0, if_neg (by omega), if_neg hne, List.drop_eq_nil_of_le (by omega)]
    simp [jt]
  | succ d ih =>
    intro a out ha h1 h2 h3
    have hlt : a < m.length := by omega
    have hla := hl _ (List.getElem_mem hlt)
    have hs1 : (out ++ (⟨#[32]⟩ : ByteArray)).size = out.size + 1 := by rw [app_size]; rfl
    have hL := hexL_len m[a]
    have hsz : (⟨((out ++ (⟨#[32]⟩ : ByteArray)).data.toList ++ hexL (m[a].drop 0)).toArray⟩ : ByteArray).size = out.size + 1 + 2 * m[a].length := by
      rw [size_list]
      simp only [List.drop_zero, List.length_append, ← size_list, hs1, hL]
    have hR := ih (a + 1) (⟨((out ++ (⟨#[32]⟩ : ByteArray)).data.toList ++ hexL (m[a].drop 0)).toArray⟩ : ByteArray) (by omega) (by omega) (by omega) (by omega)
    rw [← wrap_succ a (by omega)] at hR
    have h4 := l1_ev m a hlt (hr _ (List.getElem_mem hlt)) hla _ m[a].length 0 (out ++ (⟨#[32]⟩ : ByteArray)) (by omega) (by omega) hR
    have e : (⟨((out ++ (⟨#[32]⟩ : ByteArray)).data.toList ++ hexL (m[a].drop 0)).toArray⟩ : ByteArray).data.toList ++ jt 32 ((m.drop (a + 1)).map hexB) = out.data.toList ++ jt 32 ((m.drop a).map hexB) := by
      rw [List.drop_eq_getElem_cons hlt, List.map_cons]
      simp [jt, hexB]
    rw [e] at h4
    refine Ev.step (f := fun k => spec_l2Text.j1 k (out ++ (⟨#[32]⟩ : ByteArray)) (a : Int) m) (fun k => ?_) (Ev.step (fun k => ?_) h4)
    · rw [spec_l2Text.l0, if_pos (by omega), if_pos (by omega), if_pos (by omega)]
    · rw [spec_l2Text.j1]; rfl
theorem ltext_ev (m : List (List Int)) (hm : m.length ≤ 1048576) (hr : ∀ r ∈ m, ∀ x ∈ r, 0 ≤ x ∧ x < 256) (hl : ∀ r ∈ m, 1 ≤ r.length ∧ r.length ≤ 64) : Ev (fun k => spec_l2Text.f k m) (textR m) := by
  unfold textR
  by_cases h0 : m.length = 0
  · refine ⟨1, fun k hk => ?_⟩
    obtain ⟨k, rfl⟩ : ∃ j, k = j + 1 := ⟨k - 1, by omega⟩
    dsimp only
    rw [spec_l2Text.f, spec_l2Text.l0, if_neg (by omega), if_pos (by rw [ByteArray.toList_eq]), if_pos h0]; rfl
  · rw [if_neg h0]
    obtain ⟨x, xs, rfl⟩ : ∃ x xs, m = x :: xs := by
      cases m with
      | nil => exact absurd rfl h0
      | cons x xs => exact ⟨x, xs, rfl⟩
    have hlx := hl x List.mem_cons_self
    have hL := hexL_len x
    have hR := ltext_l0 (x :: xs) hm hr (fun r hr' => (hl r hr').2) xs.length 1 (hexB x) (by simp; omega) (by omega) (by rw [hexB_size]; omega) (by rw [hexB_size]; omega)
    have h4 := l1_ev (x :: xs) 0 (by simp) (hr _ List.mem_cons_self) hlx.2 x.length 0 (⟨#[]⟩ : ByteArray) (by simp) (by show (0 : Nat) ≤ _; omega) (R := (⟨((hexB x).data.toList ++ jt 32 (((x :: xs).drop 1).map hexB)).toArray⟩ : ByteArray)) (by
      rw [show wrap64 (((0 : Nat) : Int) + 1) = ((1 : Nat) : Int) from wrap_succ 0 (by omega)]
      simpa [hexB] using hR)
    rw [List.map_cons, join_jt]
    refine Ev.step (f := fun k => spec_l2Text.j1 k (⟨#[]⟩ : ByteArray) 0 (x :: xs)) (fun k => ?_) (Ev.step (fun k => ?_) h4)
    · rw [spec_l2Text.f, spec_l2Text.l0, if_pos (by simp <;> omega), if_neg (by omega)]
    · rw [spec_l2Text.j1]; rfl
end Go.Proofs.YtlcikalgphafaaaDoor.P
