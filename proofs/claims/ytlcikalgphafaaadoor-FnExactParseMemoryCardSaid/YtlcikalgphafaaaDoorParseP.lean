/- Plain lemmas: both ways find the same memory in a text. No program, no memory. -/
import Derived.Test.YtlcikalgphafaaaDoorParseM
namespace Go.Proofs.YtlcikalgphafaaaDoor.P
open Go.RowKit Go.Proofs.YtlcikalgphafaaaDoorW.PrintWords Go.Proofs.YtlcikalgphafaaaDoorW.PrintLast Go.Proofs.YtlcikalgphafaaaDoorW.PrintMore
set_option linter.unusedVariables false
set_option linter.unusedSimpArgs false
theorem hexL_no32 : ∀ r : List Int, (∀ x ∈ r, 0 ≤ x ∧ x < 256) → ∀ b ∈ hexL r, b ≠ 32
  | [], _, b, hb => by cases hb
  | x :: r, h, b, hb => by
    have hx0 := h x List.mem_cons_self
    rw [hexL] at hb
    rcases List.mem_cons.1 hb with rfl | hb
    · exact (hv_hx (x / 16) (by omega) (by omega)).2
    · rcases List.mem_cons.1 hb with rfl | hb
      · exact (hv_hx (x % 16) (by omega) (by omega)).2
      · exact hexL_no32 r (fun y hy => h y (List.mem_cons_of_mem _ hy)) b hb
theorem parts_app (c : UInt8) : ∀ (w rest : List UInt8), (∀ b ∈ w, b ≠ c) → parts c (w ++ c :: rest) = w :: parts c rest
  | [], rest, _ => parts_eq c rest
  | b :: w, rest, h => parts_cons c b _ (h b List.mem_cons_self) (parts_app c w rest (fun x hx => h x (List.mem_cons_of_mem _ hx)))
theorem parts_one (c : UInt8) : ∀ (w : List UInt8), (∀ b ∈ w, b ≠ c) → parts c w = [w]
  | [], _ => rfl
  | b :: w, h => parts_cons c b _ (h b List.mem_cons_self) (parts_one c w (fun x hx => h x (List.mem_cons_of_mem _ hx)))
theorem parts_jt (c : UInt8) : ∀ (ws : List ByteArray) (w : List UInt8), (∀ b ∈ w, b ≠ c) → (∀ x ∈ ws, ∀ b ∈ x.data.toList, b ≠ c) → parts c (w ++ jt c ws) = w :: ws.map (·.data.toList)
  | [], w, h, _ => by rw [jt, List.append_nil]; exact parts_one c w h
  | x :: ws, w, h, h2 => by
    rw [jt, parts_app c w _ h, parts_jt c ws x.data.toList (h2 x List.mem_cons_self) (fun y hy => h2 y (List.mem_cons_of_mem _ hy))]
    rfl
/-- The words of the text of a memory. -/
theorem parts_text (m : List (List Int)) (hm : m.length ≠ 0) (hr : ∀ r ∈ m, ∀ x ∈ r, 0 ≤ x ∧ x < 256) : parts 32 (textR m).data.toList = m.map hexL := by
  unfold textR
  rw [if_neg hm]
  cases m with
  | nil => exact absurd rfl hm
  | cons r rs =>
    rw [List.map_cons, join_jt]
    show parts 32 ((hexB r).data.toList ++ jt 32 (rs.map hexB)) = _
    rw [parts_jt 32 (rs.map hexB) (hexB r).data.toList (hexL_no32 r (hr r List.mem_cons_self)) (fun x hx => by
      obtain ⟨q, hq, rfl⟩ := List.mem_map.1 hx
      exact hexL_no32 q (hr q (List.mem_cons_of_mem _ hq))), List.map_cons, List.map_map]
    rfl
theorem mapO_map {α β : Type} {f : α → Option β} {g : β → α} : ∀ (l : List β), (∀ y ∈ l, f (g y) = some y) → mapO f (l.map g) = some l
  | [], _ => rfl
  | y :: l, h => by
    rw [List.map_cons, mapO_some (h y List.mem_cons_self), mapO_map l (fun z hz => h z (List.mem_cons_of_mem _ hz))]
    rfl
theorem mapO_rows {f : ByteArray → Option (List Int)} (hf : ∀ w r, f w = some r → ∀ x ∈ r, 0 ≤ x ∧ x < 256) : ∀ (ws : List ByteArray) (m : List (List Int)), mapO f ws = some m → ∀ r ∈ m, ∀ x ∈ r, 0 ≤ x ∧ x < 256
  | [], m, h => by obtain rfl := Option.some.inj h; intro r hr; cases hr
  | w :: ws, m, h => by
    cases hw : f w with
    | none => rw [mapO_none hw] at h; cases h
    | some y =>
      rw [mapO_some hw] at h
      obtain ⟨q, hq, rfl⟩ := Option.map_eq_some_iff.1 h
      intro r hr
      rcases List.mem_cons.1 hr with rfl | hr
      · exact hf w _ hw
      · exact mapO_rows hf ws q hq r hr
theorem splitK_ge (c : UInt8) : ∀ (k : Nat) (l : List UInt8), Lib.count l [c] ≤ k → Lib.splitK [c] 0 k l = parts c l := by
  intro k
  induction k with
  | zero => intro l h; exact splitK_parts c 0 l (by omega)
  | succ k ih =>
    intro l h
    have hg := Lib.indexByte_ge l c
    rcases Int.lt_or_le (Lib.indexByte l c) 0 with h1 | h1
    · rw [parts_miss c l (by omega), Lib.splitK, Lib.index_one, if_pos (by simp only [beq_iff_eq]; omega)]
    · have h2 := Lib.count_hit (s := l) (sub := [c]) (i := (Lib.indexByte l c).toNat) (by simp) (by rw [Lib.index_one]; omega)
      rw [parts_hit c l (Lib.indexByte l c).toNat (by omega), Lib.splitK, Lib.index_one, if_neg (by simp only [beq_iff_eq]; omega), Nat.add_zero, show ([c] : List UInt8).length = 1 from rfl]
      rw [show ([c] : List UInt8).length = 1 from rfl] at h2
      rw [ih _ (by omega)]
theorem parts_count (c : UInt8) : ∀ (l : List UInt8), (parts c l).length = Lib.count l [c] + 1 := by
  intro l
  rw [← splitK_parts c _ l rfl]
  have := Lib.splitB_all (⟨#[c]⟩ : ByteArray) (Nat.le_refl _) 0 (Lib.count l [c]) (baOf l) rfl
  have h2 := congrArg List.length (Lib.splitB_data (⟨#[c]⟩ : ByteArray) 0 (Lib.count l [c]) (baOf l))
  rw [List.length_map, this] at h2
  exact h2.symm
/-- The words that the library's split by 17 gives. -/
def words17 (s : ByteArray) : List ByteArray := Lib.splitB (⟨#[32]⟩ : ByteArray) 0 (min 17 (s.size + 1) - 1) s
theorem words17_eq (s : ByteArray) (h : (parts 32 s.data.toList).length ≤ 16) : words17 s = (parts 32 s.data.toList).map baOf := by
  have h1 := Lib.splitB_data (⟨#[32]⟩ : ByteArray) 0 (min 17 (s.size + 1) - 1) s
  have h2 := parts_count 32 s.data.toList
  have h3 := Lib.countB_le (⟨#[32]⟩ : ByteArray) (Nat.le_refl _) s.size s (Nat.le_refl _)
  have h4 : Lib.countB s (⟨#[32]⟩ : ByteArray) = Lib.count s.data.toList [32] := rfl
  have h5 : Lib.splitK [32] 0 (min 17 (s.size + 1) - 1) s.data.toList = parts 32 s.data.toList := splitK_ge 32 _ _ (by omega)
  have h6 : (words17 s).map (·.data.toList) = parts 32 s.data.toList := h1.trans h5
  rw [← h6, List.map_map]
  conv => lhs; rw [← List.map_id (words17 s)]
  apply List.map_congr_left
  intro x _
  exact ba_ext rfl
theorem words17_mem (s : ByteArray) : ∀ w ∈ words17 s, w.size ≤ s.size := by
  have : ∀ (k : Nat) (l : ByteArray), ∀ w ∈ Lib.splitB (⟨#[32]⟩ : ByteArray) 0 k l, w.size ≤ l.size := by
    intro k
    induction k with
    | zero =>
      intro l w hw
      rw [Lib.splitB_zero] at hw
      obtain rfl := List.mem_singleton.1 hw
      exact Nat.le_refl _
    | succ k ih =>
      intro l w hw
      rw [Lib.splitB] at hw
      by_cases h : (Lib.indexB l (⟨#[32]⟩ : ByteArray) == -1) = true
      · rw [if_pos h] at hw
        obtain rfl := List.mem_singleton.1 hw
        exact Nat.le_refl _
      · rw [if_neg h] at hw
        rcases List.mem_cons.1 hw with rfl | hw
        · rw [ByteArray.size_extract]; omega
        · have := ih _ w hw
          rw [ByteArray.size_extract] at this
          omega
  exact this _ s
/-- What both give: the one memory with that text, where there is one. -/
theorem memory_both (s : ByteArray) (hs : s.size ≤ 1048576) : ∃ v : List (List Int) × Bool, Small v.1 ∧ Ev (fun k => spec_ParseMemory.f k s) v ∧ Ev (fun k => impl_ParseMemory.f k s) v := by
  by_cases hnone : s = noneB
  · have htl : s.toList = ([110, 111, 110, 101] : List UInt8) := by rw [ByteArray.toList_eq, hnone]; rfl
    refine ⟨([], true), ⟨by simp, fun a ha => by cases ha⟩, ⟨0, fun k _ => ?_⟩, ⟨0, fun k _ => ?_⟩⟩
    · dsimp only
      rw [spec_ParseMemory.f, Option.bind_some, if_pos htl]
    · dsimp only
      rw [impl_ParseMemory.f, if_pos htl]
  · have htl : ¬ s.toList = ([110, 111, 110, 101] : List UInt8) := fun q => hnone (by
      rw [ByteArray.toList_eq] at q
      exact ba_ext q)
    obtain ⟨W, hW⟩ : ∃ W, W = (parts 32 s.data.toList).map baOf := ⟨_, rfl⟩
    have hsl := size_list s
    have hWl : W.length ≤ 1048577 := by
      have := parts_len 32 s.data.toList
      rw [hW, List.length_map]; omega
    have hWz : ∀ w ∈ W, w.size ≤ 1048576 := fun w hw => by
      rw [hW] at hw
      obtain ⟨p, hp, rfl⟩ := List.mem_map.1 hw
      have := parts_mem 32 _ p hp
      rw [size_list]
      show p.length ≤ _
      omega
    have h17 := Lib.splitB_length_le (⟨#[32]⟩ : ByteArray) 0 (min 17 (s.size + 1) - 1) s
    have hVl : (words17 s).length ≤ 17 := by unfold words17; omega
    have hVz : ∀ w ∈ words17 s, w.size ≤ 1048576 := fun w hw => by have := words17_mem s w hw; omega
    obtain ⟨K1, e1⟩ := split_ev s 32 hs
    obtain ⟨K2, e2⟩ := parse_spec_l0 s W hWl hWz 17 0 [] (by omega) rfl (by omega) (fun r hr => by cases hr)
    obtain ⟨K3, e3⟩ := parse_impl_l0 s (words17 s) hVl hVz (words17 s).length 0 [] (by omega) rfl (fun r hr => by cases hr)
    rw [List.drop_zero] at e2 e3
    have es : Ev (fun k => spec_ParseMemory.f k s) (wholeR s [] (mapO decS (W.take 17))) := by
      refine ⟨K1 + K2, fun k hk => ?_⟩
      have e1 := e1 k (by omega)
      have e2 := e2 k (by omega)
      dsimp only at e1 e2 ⊢
      rw [spec_ParseMemory.f, Option.bind_some, if_neg htl]
      have e1' : spec_l1Split.f k s 32 = some ((parts 32 s.data.toList).map baOf) := e1
      rw [e1', Option.bind_some, ← hW]
      exact e2
    have ei : Ev (fun k => impl_ParseMemory.f k s) (wholeR s [] (mapO decI (words17 s))) := by
      refine ⟨K3, fun k hk => ?_⟩
      have e3 := e3 k (by omega)
      dsimp only at e3 ⊢
      rw [impl_ParseMemory.f, if_neg htl]
      have hv : strings_SplitN.f s (⟨#[32]⟩ : ByteArray) 17 = some (words17 s) := by
        unfold strings_SplitN.f
        rw [if_pos ⟨by omega, Nat.le_refl _, by omega, by omega⟩]; rfl
      rw [hv, Option.bind_some]
      exact e3
    by_cases hV : ∃ m : List (List Int), memOk m = true ∧ textR m = s ∧ ∀ r ∈ m, ∀ x ∈ r, 0 ≤ x ∧ x < 256
    · obtain ⟨m, hok, ht, hr⟩ := hV
      have hm0 : m.length ≠ 0 := fun q => hnone (by rw [← ht]; unfold textR; rw [if_pos q])
      have hm16 := memOk_len hok
      have hp := parts_text m hm0 hr
      rw [ht] at hp
      have hW2 : W = m.map hexB := by rw [hW, hp, List.map_map]; rfl
      have hWt : W.take 17 = m.map hexB := by rw [hW2, List.take_of_length_le (by rw [List.length_map]; omega)]
      have hV2 : words17 s = m.map hexB := by rw [words17_eq s (by rw [hp, List.length_map]; omega), hp, List.map_map]; rfl
      have hd1 : mapO decS (m.map hexB) = some m := mapO_map m (fun r hr2 => by
        have h64 := (memOk_each hok r hr2).2
        have hl := hexL_len r
        show dec1 ((hexL r).take 128) = some r
        rw [List.take_of_length_le (by omega), dec1_hexL r (hr r hr2)])
      have hd2 : mapO decI (m.map hexB) = some m := mapO_map m (fun r hr2 => by
        unfold decI
        rw [if_pos (by rw [hexB_size]; simp only [beq_iff_eq]; omega)]
        exact dec1_hexL r (hr r hr2))
      have hc : chk s m = (m, true) := by unfold chk; rw [if_pos ⟨hok, ht⟩]
      rw [hWt, hd1] at es
      rw [hV2, hd2] at ei
      refine ⟨(m, true), ⟨by show m.length ≤ _; omega, fun a ha => by have := (memOk_each hok a ha).2; omega⟩, ?_, ?_⟩
      · rw [← hc]; exact es
      · rw [← hc]; exact ei
    · have hno : ∀ (f : ByteArray → Option (List Int)), (∀ w r, f w = some r → ∀ x ∈ r, 0 ≤ x ∧ x < 256) → ∀ ws, wholeR s [] (mapO f ws) = ([], false) := by
        intro f hf ws
        cases ho : mapO f ws with
        | none => rfl
        | some m =>
          show chk s ([] ++ m) = _
          rw [List.nil_append]
          unfold chk
          rw [if_neg (fun q => hV ⟨m, q.1, q.2, mapO_rows hf ws m ho⟩)]
      refine ⟨([], false), ⟨by simp, fun a ha => by cases ha⟩, ?_, ?_⟩
      · rw [hno decS (fun w r h => (dec1_range _ _ h).2)] at es; exact es
      · rw [hno decI (fun w r h => by
          unfold decI at h
          by_cases he : ((w.size : Int) % 2 == 0) = true
          · rw [if_pos he] at h; exact (dec1_range _ _ h).2
          · rw [if_neg he] at h; cases h)] at ei; exact ei
end Go.Proofs.YtlcikalgphafaaaDoor.P
