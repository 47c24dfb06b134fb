/- Plain lemmas: what joining answers, both ways. No program, no memory. -/
import Derived.Test.YtlcikalgphafaaaDoorStrQ
import Derived.Test.YtlcikalgphafaaaDoorTexts
import Derived.Test.YtlcikalgphafaaaDoorPx11
import Derived.Test.YtlcikalgphafaaaDoorStr
namespace Go.Proofs.YtlcikalgphafaaaDoor.P
open Go.RowKit Go.Proofs.YtlcikalgphafaaaDoorW.PrintWords Go.Proofs.YtlcikalgphafaaaDoorW.PrintLast Go.Proofs.YtlcikalgphafaaaDoorW.PrintMore
set_option linter.unusedVariables false
set_option linter.unusedSimpArgs false
theorem specJ_l0 (l : List ByteArray) (sep : ByteArray) (c : UInt8) (hs : sep.data.toList = [c]) (hsm : SmallT l) (d : Nat) : ∀ (i : Nat) (out : ByteArray), i + d = l.length → 1 ≤ i → out.size ≤ 4000 →
    Ev (fun k => spec_JoinStrings.l0 k l sep out (i : Int)) (if ((l.drop i).all (fun x => !has x c) && decide (out.size + (jt c (l.drop i)).length ≤ 4000)) = true then (⟨(out.data.toList ++ jt c (l.drop i)).toArray⟩, true) else (⟨#[]⟩, false)) := by
  obtain ⟨hlen, hsz⟩ := hsm
  have hss : sep.size = 1 := by rw [size_list, hs]; rfl
  have hb0 : bt sep 0 = (c.toNat : Int) := by
    have := bt_get sep 0 (by rw [hs]; simp)
    simpa [hs] using this
  induction d with
  | zero =>
    intro i out hi h1 ho
    refine Ev.end_ (fun k => ?_)
    rw [spec_JoinStrings.l0, if_neg (by omega), List.drop_eq_nil_of_le (by omega)]
    simp [jt, ho]
  | succ d ih =>
    intro i out hi h1 ho
    have hlt : i < l.length := by omega
    have hx := hsz _ (List.getElem_mem hlt)
    obtain ⟨K1, e1⟩ := stands_ev l[i] c (by omega)
    rw [List.drop_eq_getElem_cons hlt, List.all_cons]
    cases h : has l[i] c with
    | true =>
      refine ⟨K1 + 1, fun k hk => ?_⟩
      obtain ⟨k, rfl⟩ : ∃ j, k = j + 1 := ⟨k - 1, by omega⟩
      have e1 := e1 k (by omega)
      dsimp only at e1 ⊢
      rw [spec_JoinStrings.l0, if_pos (by omega), if_pos (by omega), if_pos (by omega), rdOf_get hlt, hb0, e1, h, Option.bind_some, if_pos rfl]
      rfl
    | false =>
      have hsz2 : (out ++ sep).size = out.size + 1 := by rw [app_size, hss]
      have hsz3 : (out ++ sep ++ l[i]).size = out.size + 1 + l[i].size := by rw [app_size, hsz2]
      have hjl : (jt c (l[i] :: l.drop (i + 1))).length = 1 + l[i].size + (jt c (l.drop (i + 1))).length := by
        have := size_list l[i]
        simp only [jt, List.length_cons, List.length_append]; omega
      by_cases hg : ((out ++ sep ++ l[i]).size : Int) > 4000
      · refine ⟨K1 + 1, fun k hk => ?_⟩
        obtain ⟨k, rfl⟩ : ∃ j, k = j + 1 := ⟨k - 1, by omega⟩
        have e1 := e1 k (by omega)
        dsimp only at e1 ⊢
        rw [spec_JoinStrings.l0, if_pos (by omega), if_pos (by omega), if_pos (by omega), rdOf_get hlt, hb0, e1, h, Option.bind_some, if_neg (by decide), if_pos (by omega), if_pos (by omega), if_pos (by omega), if_pos hg]
        rw [decide_eq_false (by omega), Bool.and_false, if_neg (by decide)]
      · obtain ⟨K2, e2⟩ := ih (i + 1) (out ++ sep ++ l[i]) (by omega) (by omega) (by omega)
        refine ⟨K1 + K2 + 1, fun k hk => ?_⟩
        obtain ⟨k, rfl⟩ : ∃ j, k = j + 1 := ⟨k - 1, by omega⟩
        have e1 := e1 k (by omega)
        have e2 := e2 k (by omega)
        dsimp only at e1 e2 ⊢
        rw [spec_JoinStrings.l0, if_pos (by omega), if_pos (by omega), if_pos (by omega), rdOf_get hlt, hb0, e1, h, Option.bind_some, if_neg (by decide), if_pos (by omega), if_pos (by omega), if_pos (by omega), if_neg hg, wrap_succ i (by omega), e2]
        rw [hsz3, app_list, app_list, hs, hjl, Bool.not_false, Bool.true_and]
        rw [show out.size + 1 + l[i].size + (jt c (l.drop (i + 1))).length = out.size + (1 + l[i].size + (jt c (l.drop (i + 1))).length) by omega]
        rw [show out.data.toList ++ [c] ++ l[i].data.toList ++ jt c (l.drop (i + 1)) = out.data.toList ++ jt c (l[i] :: l.drop (i + 1)) by simp [jt]]
def okJ (l : List ByteArray) (c : UInt8) : Bool := l.all (fun x => !has x c) && decide (l.length - 1 + lenS l ≤ 4000)
def joinR (l : List ByteArray) (sep : ByteArray) : ByteArray × Bool :=
  if l.length = 0 ∨ sep.size ≠ 1 then (⟨#[]⟩, false) else (if okJ l (sep.data.toList.getD 0 0) = true then (⟨(Lib.join (l.map (·.data.toList)) sep.data.toList).toArray⟩, true) else (⟨#[]⟩, false))
theorem one_of {sep : ByteArray} (h : sep.size = 1) : ∃ c, sep.data.toList = [c] := List.length_eq_one_iff.mp (by rw [← size_list]; exact h)
theorem joinR_spec (l : List ByteArray) (sep : ByteArray) (hsm : SmallT l) : Ev (fun k => spec_JoinStrings.f k l sep) (joinR l sep) := by
  have hlen := hsm.1
  unfold joinR
  by_cases h1 : sep.size = 1
  · by_cases h0 : l.length = 0
    · refine ⟨1, fun k hk => ?_⟩
      obtain ⟨k, rfl⟩ : ∃ j, k = j + 1 := ⟨k - 1, by omega⟩
      have c1 : ((l.length : Int) == 0) = true := by rw [h0]; rfl
      dsimp only
      rw [spec_JoinStrings.f, if_pos (by omega), c1, spec_JoinStrings.j0, if_pos rfl, if_pos (Or.inl h0)]
    · obtain ⟨c, hc⟩ := one_of h1
      have c1 : ((l.length : Int) == 0) = false := beq_eq_false_iff_ne.mpr (by omega)
      have hb0 : bt sep 0 = (c.toNat : Int) := by
        have := bt_get sep 0 (by rw [hc]; simp)
        simpa [hc] using this
      obtain ⟨x, xs, rfl⟩ : ∃ x xs, l = x :: xs := by
        cases l with
        | nil => exact absurd rfl h0
        | cons x xs => exact ⟨x, xs, rfl⟩
      have hx := hsm.2 x List.mem_cons_self
      obtain ⟨K1, e1⟩ := stands_ev x c (by omega)
      have hr0 : rdOf ByteArray.empty (x :: xs) 0 = x := rfl
      have hee : (⟨#[]⟩ : ByteArray) ++ x = x := by apply ByteArray.ext; simp
      have hez : (⟨#[]⟩ : ByteArray).size = 0 := rfl
      rw [if_neg (by omega), hc, join_jt]
      show Ev _ (if okJ (x :: xs) c = true then _ else _)
      unfold okJ
      rw [List.all_cons, List.length_cons]
      cases h : has x c with
      | true =>
        refine ⟨K1 + 2, fun k hk => ?_⟩
        obtain ⟨k, rfl⟩ : ∃ j, k = j + 1 + 1 := ⟨k - 2, by omega⟩
        have e1 := e1 k (by omega)
        dsimp only at e1 ⊢
        rw [spec_JoinStrings.f, if_pos (by omega), c1, spec_JoinStrings.j0, if_neg (by decide), spec_JoinStrings.l0, if_pos (by rw [List.length_cons]; omega), if_pos (by omega), if_pos (by omega), hr0, hb0, e1, h, Option.bind_some, if_pos rfl]
        rfl
      | false =>
        have hl2 := jt_len c xs
        by_cases hg : (x.size : Int) > 4000
        · refine ⟨K1 + 2, fun k hk => ?_⟩
          obtain ⟨k, rfl⟩ : ∃ j, k = j + 1 + 1 := ⟨k - 2, by omega⟩
          have e1 := e1 k (by omega)
          dsimp only at e1 ⊢
          rw [spec_JoinStrings.f, if_pos (by omega), c1, spec_JoinStrings.j0, if_neg (by decide), spec_JoinStrings.l0, if_pos (by rw [List.length_cons]; omega), if_pos (by omega), if_pos (by omega), hr0, hb0, e1, h, Option.bind_some, if_neg (by decide), if_neg (by omega), if_pos (by omega), hee, if_pos hg]
          rw [decide_eq_false (by simp only [lenS]; omega), Bool.and_false, if_neg (by decide)]
        · obtain ⟨K2, e2⟩ := specJ_l0 (x :: xs) sep c hc hsm xs.length 1 x (by rw [List.length_cons]; omega) (by omega) (by omega)
          refine ⟨K1 + K2 + 2, fun k hk => ?_⟩
          obtain ⟨k, rfl⟩ : ∃ j, k = j + 1 + 1 := ⟨k - 2, by omega⟩
          have e1 := e1 k (by omega)
          have e2 := e2 k (by omega)
          dsimp only at e1 e2 ⊢
          rw [spec_JoinStrings.f, if_pos (by omega), c1, spec_JoinStrings.j0, if_neg (by decide), spec_JoinStrings.l0, if_pos (by rw [List.length_cons]; omega), if_pos (by omega), if_pos (by omega), hr0, hb0, e1, h, Option.bind_some, if_neg (by decide), if_neg (by omega), if_pos (by omega), hee, if_neg hg, show wrap64 (0 + 1) = ((1 : Nat) : Int) from by rw [wrap_in (x := 0 + 1) (by omega) (by omega)]; rfl, e2]
          rw [Bool.not_false, Bool.true_and, show List.drop 1 (x :: xs) = xs from rfl, hl2]
          rw [show x.size + (xs.length + lenS xs) = xs.length + 1 - 1 + lenS (x :: xs) by simp only [lenS]; omega]
  · refine ⟨1, fun k hk => ?_⟩
    obtain ⟨k, rfl⟩ : ∃ j, k = j + 1 := ⟨k - 1, by omega⟩
    dsimp only
    rw [spec_JoinStrings.f, if_neg (by omega), spec_JoinStrings.j0, if_pos rfl, if_pos (Or.inr h1)]
theorem implJ_l0 (l : List ByteArray) (sep : ByteArray) (c : UInt8) (hs : sep.data.toList = [c]) (hsm : SmallT l) (J : ByteArray) (hJ : strings_Join.f l sep = some J) (d : Nat) : ∀ (i : Nat) (t : Int), i + d = l.length → 0 ≤ t → t ≤ 2000000 → (i = l.length → t ≤ 4000) →
    Ev (fun k => impl_JoinStrings.l0 k l sep t l (l.length : Int) (i : Int)) (if ((l.drop i).all (fun x => !has x c) && decide (t + lenS (l.drop i) ≤ 4000)) = true then (J, true) else (⟨#[]⟩, false)) := by
  obtain ⟨hlen, hsz⟩ := hsm
  induction d with
  | zero =>
    intro i t hi h0 h1 h2
    refine Ev.end_ (fun k => ?_)
    have := h2 (by omega)
    rw [impl_JoinStrings.l0, if_neg (by omega), hJ, Option.bind_some, List.drop_eq_nil_of_le (by omega)]
    simp [lenS, this]
  | succ d ih =>
    intro i t hi h0 h1 h2
    have hlt : i < l.length := by omega
    have hx := hsz _ (List.getElem_mem hlt)
    rw [lenS_mem hlt, List.drop_eq_getElem_cons hlt, List.all_cons]
    by_cases hg : t + (l[i].size : Int) > 4000
    · refine Ev.end_ (fun k => ?_)
      rw [impl_JoinStrings.l0, if_pos (by omega), if_pos (by omega), if_pos (by omega), rdOf_get hlt, wrap_in (x := t + (l[i].size : Int)) (by omega) (by omega), if_pos hg]
      rw [decide_eq_false (by omega), Bool.and_false, if_neg (by decide)]
    · cases h : has l[i] c with
      | true =>
        refine Ev.end_ (fun k => ?_)
        rw [impl_JoinStrings.l0, if_pos (by omega), if_pos (by omega), if_pos (by omega), rdOf_get hlt, wrap_in (x := t + (l[i].size : Int)) (by omega) (by omega), if_neg hg, contains_eq _ _ c hs, h, Option.bind_some, if_pos rfl]
        rfl
      | false =>
        obtain ⟨K2, e2⟩ := ih (i + 1) (t + (l[i].size : Int)) (by omega) (by omega) (by omega) (by omega)
        refine ⟨K2 + 1, fun k hk => ?_⟩
        obtain ⟨k, rfl⟩ : ∃ j, k = j + 1 := ⟨k - 1, by omega⟩
        have e2 := e2 k (by omega)
        dsimp only at e2 ⊢
        rw [impl_JoinStrings.l0, if_pos (by omega), if_pos (by omega), if_pos (by omega), rdOf_get hlt, wrap_in (x := t + (l[i].size : Int)) (by omega) (by omega), if_neg hg, contains_eq _ _ c hs, h, Option.bind_some, if_neg (by decide), wrap_succ i (by omega), e2]
        rw [Bool.not_false, Bool.true_and, show t + (l[i].size : Int) + (lenS (l.drop (i + 1)) : Int) = t + ((l[i].size + lenS (l.drop (i + 1)) : Nat) : Int) by omega]
theorem joinR_impl (l : List ByteArray) (sep : ByteArray) (hsm : SmallT l) : Ev (fun k => impl_JoinStrings.f k l sep) (joinR l sep) := by
  have hlen := hsm.1
  unfold joinR
  by_cases h0 : l.length = 0
  · refine ⟨1, fun k hk => ?_⟩
    obtain ⟨k, rfl⟩ : ∃ j, k = j + 1 := ⟨k - 1, by omega⟩
    dsimp only
    rw [impl_JoinStrings.f, if_pos (by omega), impl_JoinStrings.j0, if_pos rfl, if_pos (Or.inl h0)]
  · by_cases h1 : sep.size = 1
    · obtain ⟨c, hc⟩ := one_of h1
      have c1 : ((sep.size : Int) != 1) = false := by rw [h1]; rfl
      have hjl : (Lib.join (l.map (·.data.toList)) sep.data.toList).length ≤ 140737488355328 := by
        cases l with
        | nil => exact absurd rfl h0
        | cons x xs =>
          rw [hc, join_jt, List.length_append, jt_len]
          have h2 := lenS_le xs (fun y hy => hsm.2 y (List.mem_cons_of_mem _ hy))
          have h3 := hsm.2 x List.mem_cons_self
          have h4 := size_list x
          simp only [List.length_cons] at hlen
          have h5 : xs.length * 1048576 ≤ 1048576 * 1048576 := Nat.mul_le_mul_right _ (by omega)
          omega
      have hJ : strings_Join.f l sep = some ⟨(Lib.join (l.map (·.data.toList)) sep.data.toList).toArray⟩ := by
        unfold strings_Join.f
        rw [if_pos ⟨by omega, hjl⟩]
      obtain ⟨K, e1⟩ := implJ_l0 l sep c hc hsm _ hJ l.length 0 ((l.length : Int) - 1) (by omega) (by omega) (by omega) (by omega)
      refine ⟨K + 1, fun k hk => ?_⟩
      obtain ⟨k, rfl⟩ : ∃ j, k = j + 1 := ⟨k - 1, by omega⟩
      have e1 := e1 k (by omega)
      dsimp only at e1 ⊢
      rw [impl_JoinStrings.f, if_neg (by omega), c1, impl_JoinStrings.j0, if_neg (by decide), wrap_in (x := (l.length : Int) - 1) (by omega) (by omega), if_neg (by omega), show (0 : Int) = ((0 : Nat) : Int) from rfl, e1, hc]
      show _ = some (if okJ l c = true then _ else _)
      unfold okJ
      rw [List.drop_zero, show decide ((l.length : Int) - 1 + (lenS l : Int) ≤ 4000) = decide (l.length - 1 + lenS l ≤ 4000) from decide_eq_decide.mpr (by omega)]
    · refine ⟨1, fun k hk => ?_⟩
      obtain ⟨k, rfl⟩ : ∃ j, k = j + 1 := ⟨k - 1, by omega⟩
      have c1 : ((sep.size : Int) != 1) = true := by simpa using (by omega : ¬ (sep.size : Int) = 1)
      dsimp only
      rw [impl_JoinStrings.f, if_neg (by omega), c1, impl_JoinStrings.j0, if_pos rfl, if_pos (Or.inr h1)]
end Go.Proofs.YtlcikalgphafaaaDoor.P
