/- Plain lemmas: a memory out of a text, both ways. No program, no memory. -/
import Derived.Test.YtlcikalgphafaaaDoorMemT
import Derived.Test.YtlcikalgphafaaaDoorMemQ
import Derived.Test.YtlcikalgphafaaaDoorSplitP
import Derived.Test.YtlcikalgphafaaaDoorStrQ
import Derived.Test.YtlcikalgphafaaaDoorPx1
import Derived.Test.YtlcikalgphafaaaDoorPx3
import Derived.Test.YtlcikalgphafaaaDoorPx6
import Derived.Test.YtlcikalgphafaaaDoorPx7
import Derived.Test.YtlcikalgphafaaaDoorDoorF
namespace Go.Proofs.YtlcikalgphafaaaDoor.P
open Go.RowKit Go.Proofs.YtlcikalgphafaaaDoorW.PrintWords Go.Proofs.YtlcikalgphafaaaDoorW.PrintLast Go.Proofs.YtlcikalgphafaaaDoorW.PrintMore
set_option linter.unusedVariables false
set_option linter.unusedSimpArgs false
/-- The value of a hex sign; -1: none. -/
def hv (b : UInt8) : Int := if 48 ≤ b.toNat ∧ b.toNat ≤ 57 then (b.toNat : Int) - 48 else if 97 ≤ b.toNat ∧ b.toNat ≤ 102 then (b.toNat : Int) - 87 else -1
theorem hv_range (b : UInt8) : -1 ≤ hv b ∧ hv b < 16 := by
  unfold hv
  by_cases h : 48 ≤ b.toNat ∧ b.toNat ≤ 57
  · rw [if_pos h]; omega
  · rw [if_neg h]
    by_cases h2 : 97 ≤ b.toNat ∧ b.toNat ≤ 102
    · rw [if_pos h2]; omega
    · rw [if_neg h2]; omega
theorem all_bytes {p : UInt8 → Prop} (h : ∀ k : Fin 256, p (UInt8.ofNat k.val)) (b : UInt8) : p b := by
  have h2 := h ⟨b.toNat, UInt8.toNat_lt _⟩
  simpa using h2
theorem ib_hex (b : UInt8) : Lib.indexByte [48, 49, 50, 51, 52, 53, 54, 55, 56, 57, 97, 98, 99, 100, 101, 102] b = hv b := by
  revert b
  have h : ∀ k : Fin 256, Lib.indexByte [48, 49, 50, 51, 52, 53, 54, 55, 56, 57, 97, 98, 99, 100, 101, 102] (UInt8.ofNat k.val) = hv (UInt8.ofNat k.val) := by decide +kernel
  exact all_bytes h
theorem ib_dig (b : UInt8) : strings_IndexByte.f (⟨#[48, 49, 50, 51, 52, 53, 54, 55, 56, 57, 97, 98, 99, 100, 101, 102]⟩ : ByteArray) (b.toNat : Int) = some (hv b) := by
  unfold strings_IndexByte.f
  rw [Int.toNat_natCast, show b.toNat.toUInt8 = b from by simp]
  exact congrArg some (ib_hex b)
theorem hv_hx (n : Int) (h0 : 0 ≤ n) (h1 : n < 16) : hv (hx n) = n ∧ hx n ≠ 32 := by
  have h2 : ∀ k : Fin 16, hv (hx ((k.val : Nat) : Int)) = ((k.val : Nat) : Int) ∧ hx ((k.val : Nat) : Int) ≠ 32 := by decide +kernel
  have h3 := h2 ⟨n.toNat, by omega⟩
  rwa [show ((n.toNat : Nat) : Int) = n by omega] at h3
theorem dig_l0 (b : UInt8) (d : Nat) : ∀ n : Nat, n + d = 16 → (∀ m : Nat, m < n → hx (m : Int) ≠ b) → Ev (fun k => spec_l2Digit.l0 k (b.toNat : Int) (n : Int)) (hv b) := by
  have hn : (∀ m : Nat, m < 16 → hx (m : Int) ≠ b) → hv b = -1 := by
    revert b
    have h : ∀ k : Fin 256, (∀ m : Fin 16, hx ((m.val : Nat) : Int) ≠ UInt8.ofNat k.val) → hv (UInt8.ofNat k.val) = -1 := by decide +kernel
    intro b hb
    exact all_bytes (p := fun b => (∀ m : Fin 16, hx ((m.val : Nat) : Int) ≠ b) → hv b = -1) h b (fun m => hb m.val m.isLt)
  induction d with
  | zero =>
    intro n hd hm
    obtain rfl : n = 16 := by omega
    refine Ev.end_ (fun k => ?_)
    rw [spec_l2Digit.l0, if_neg (by omega), hn hm]
  | succ d ih =>
    intro n hd hm
    have hs : (⟨#[hx (n : Int)]⟩ : ByteArray).size = 1 := rfl
    have hb : bt (⟨#[hx (n : Int)]⟩ : ByteArray) 0 = ((hx (n : Int)).toNat : Int) := bt_get _ 0 (by simp)
    by_cases h : hx (n : Int) = b
    · refine Ev.end_ (fun k => ?_)
      rw [spec_l2Digit.l0, if_pos (by omega), hexc (n : Int) (by omega) (by omega), Option.bind_some, if_pos (by rw [hs]; omega), hb, if_pos (by rw [h]), ← h, (hv_hx (n : Int) (by omega) (by omega)).1]
    · refine Ev.step (fun k => ?_) (ih (n + 1) (by omega) (fun m h1 => by
        by_cases h2 : m = n
        · subst h2; exact h
        · exact hm m (by omega)))
      rw [spec_l2Digit.l0, if_pos (by omega), hexc (n : Int) (by omega) (by omega), Option.bind_some, if_pos (by rw [hs]; omega), hb, if_neg (fun q => h (UInt8.toNat_inj.mp (by omega))), wrap_succ n (by omega)]
theorem dig_ev (b : UInt8) : Ev (fun k => spec_l2Digit.f k (b.toNat : Int)) (hv b) := dig_l0 b 16 0 (by omega) (fun m h => by omega)
/-- The bytes of two signs each. -/
def dec1 : List UInt8 → Option (List Int)
  | a :: b :: r => if hv a < 0 then none else if hv b < 0 then none else (dec1 r).map fun q => (16 * hv a + hv b) :: q
  | _ => some []
theorem dec1_hexL : ∀ r : List Int, (∀ x ∈ r, 0 ≤ x ∧ x < 256) → dec1 (hexL r) = some r
  | [], _ => rfl
  | x :: r, h => by
    have ih := dec1_hexL r (fun y hy => h y (List.mem_cons_of_mem _ hy))
    have hx0 := h x List.mem_cons_self
    have h1 := (hv_hx (x / 16) (by omega) (by omega)).1
    have h2 := (hv_hx (x % 16) (by omega) (by omega)).1
    rw [hexL, dec1, h1, h2, if_neg (by omega), if_neg (by omega), ih, Option.map_some, show 16 * (x / 16) + x % 16 = x by omega]
theorem dec1_range : ∀ (l : List UInt8) (r : List Int), dec1 l = some r → r.length * 2 ≤ l.length ∧ ∀ x ∈ r, 0 ≤ x ∧ x < 256
  | [], r, h => by obtain rfl := Option.some.inj h; exact ⟨by simp, fun x hx => by cases hx⟩
  | [a], r, h => by obtain rfl := Option.some.inj h; exact ⟨by simp, fun x hx => by cases hx⟩
  | a :: b :: l, r, h => by
    have ih := dec1_range l
    have ha := hv_range a
    have hb := hv_range b
    rw [dec1] at h
    by_cases h1 : hv a < 0
    · rw [if_pos h1] at h; cases h
    · rw [if_neg h1] at h
      by_cases h2 : hv b < 0
      · rw [if_pos h2] at h; cases h
      · rw [if_neg h2] at h
        obtain ⟨q, hq, rfl⟩ := Option.map_eq_some_iff.1 h
        obtain ⟨i1, i2⟩ := ih q hq
        refine ⟨by simp only [List.length_cons]; omega, fun x hx => ?_⟩
        rcases List.mem_cons.1 hx with rfl | hx
        · omega
        · exact i2 x hx
theorem or16 (x y : Int) (h0 : 0 ≤ x) (h1 : x < 16) (h2 : 0 ≤ y) (h3 : y < 16) : (Go.bits .or .i64 (wrap64 (x * 16)) y) % 256 = 16 * x + y := by
  rw [wrap_in (x := x * 16) (by omega) (by omega)]
  have h4 : ∀ a b : Fin 16, (Go.bits .or .i64 (((a.val : Nat) : Int) * 16) ((b.val : Nat) : Int)) % 256 = 16 * ((a.val : Nat) : Int) + ((b.val : Nat) : Int) := by decide +kernel
  have h5 := h4 ⟨x.toNat, by omega⟩ ⟨y.toNat, by omega⟩
  rwa [show ((x.toNat : Nat) : Int) = x by omega, show ((y.toNat : Nat) : Int) = y by omega] at h5
theorem drop2 {l : List UInt8} {i : Nat} (h : i + 1 < l.length) : l.drop i = l[i] :: l[i + 1] :: l.drop (i + 2) := by
  rw [List.drop_eq_getElem_cons (by omega : i < l.length), List.drop_eq_getElem_cons h]
theorem dec1_short {l : List UInt8} (h : l.length ≤ 1) : dec1 l = some [] := by
  match l, h with
  | [], _ => rfl
  | [a], _ => rfl
/-- The library's way. -/
def hexR (w : ByteArray) (acc : List Int) : Option (List Int) → List Int × Bool
  | none => ([], false)
  | some r => (acc ++ r, ((w.size : Int) % 2) == 0)
theorem hexBytes_l0 (w : ByteArray) (hw : w.size ≤ 1048576) (n : Nat) : ∀ (i : Nat) (acc : List Int), w.data.toList.length ≤ i + n → i ≤ w.data.toList.length + 1 → acc.length ≤ i →
    Ev (fun k => impl_hexBytes.l0 k w acc (i : Int)) (hexR w acc (dec1 (w.data.toList.drop i))) := by
  have hs := size_list w
  induction n using Nat.strongRecOn with
  | _ n ih =>
    intro i acc hi hi2 ha
    by_cases h : i + 1 < w.data.toList.length
    · have hr0 := hv_range w.data.toList[i]
      have hr1 := hv_range w.data.toList[i + 1]
      have hb0 := bt_get w i (by omega)
      have hb1 := bt_get w (i + 1) h
      rw [drop2 h, dec1]
      by_cases h0 : hv w.data.toList[i] < 0
      · rw [if_pos h0]
        refine Ev.end_ (fun k => ?_)
        rw [impl_hexBytes.l0, wrap_succ i (by omega), if_pos (by omega), if_pos (by omega), if_pos (by omega), hb0, ib_dig, Option.bind_some, if_pos (by omega), hb1, ib_dig, Option.bind_some, if_pos h0]; rfl
      · by_cases h1 : hv w.data.toList[i + 1] < 0
        · rw [if_neg h0, if_pos h1]
          refine Ev.end_ (fun k => ?_)
          rw [impl_hexBytes.l0, wrap_succ i (by omega), if_pos (by omega), if_pos (by omega), if_pos (by omega), hb0, ib_dig, Option.bind_some, if_pos (by omega), hb1, ib_dig, Option.bind_some, if_neg h0, if_pos h1]; rfl
        · rw [if_neg h0, if_neg h1]
          have h2 := ih (n - 2) (by omega) (i + 2) (acc ++ [16 * hv w.data.toList[i] + hv w.data.toList[i + 1]]) (by omega) (by omega) (by simp; omega)
          have e : hexR w (acc ++ [16 * hv w.data.toList[i] + hv w.data.toList[i + 1]]) (dec1 (w.data.toList.drop (i + 2))) = hexR w acc ((dec1 (w.data.toList.drop (i + 2))).map fun q => (16 * hv w.data.toList[i] + hv w.data.toList[i + 1]) :: q) := by
            cases dec1 (w.data.toList.drop (i + 2)) with
            | none => rfl
            | some r => simp [hexR]
          rw [e] at h2
          refine Ev.step (fun k => ?_) h2
          rw [impl_hexBytes.l0, wrap_succ i (by omega), if_pos (by omega), if_pos (by omega), if_pos (by omega), hb0, ib_dig, Option.bind_some, if_pos (by omega), hb1, ib_dig, Option.bind_some, if_neg h0, if_neg h1, if_pos (by omega), or16 _ _ (by omega) (by omega) (by omega) (by omega), wrap_in (x := (i : Int) + 2) (by omega) (by omega), show (i : Int) + 2 = ((i + 2 : Nat) : Int) by omega]
    · rw [dec1_short (by rw [List.length_drop]; omega)]
      refine Ev.end_ (fun k => ?_)
      rw [impl_hexBytes.l0, wrap_succ i (by omega), if_neg (by omega)]
      simp [hexR]
theorem hexBytes_ev (w : ByteArray) (hw : w.size ≤ 1048576) : Ev (fun k => impl_hexBytes.f k w) (hexR w [] (dec1 w.data.toList)) := by
  have := hexBytes_l0 w hw w.data.toList.length 0 [] (by omega) (by omega) (by simp)
  simpa [impl_hexBytes.f] using this
/-- What the last test makes of a memory. -/
def chk (s : ByteArray) (m : List (List Int)) : List (List Int) × Bool := if memOk m = true ∧ textR m = s then (m, true) else ([], false)
def wholeR (s : ByteArray) (acc : List (List Int)) : Option (List (List Int)) → List (List Int) × Bool
  | none => ([], false)
  | some m => chk s (acc ++ m)
def IsRow (r : List Int) : Prop := r.length ≤ 1048576 ∧ ∀ x ∈ r, 0 ≤ x ∧ x < 256
def decI (w : ByteArray) : Option (List Int) := if ((w.size : Int) % 2 == 0) = true then dec1 w.data.toList else none
def mapO {α β : Type} (f : α → Option β) : List α → Option (List β)
  | [] => some []
  | x :: xs => match f x with
    | none => none
    | some y => (mapO f xs).map (y :: ·)
theorem mapO_none {α β : Type} {f : α → Option β} {x : α} {xs : List α} (h : f x = none) : mapO f (x :: xs) = none := by rw [mapO, h]
theorem mapO_some {α β : Type} {f : α → Option β} {x : α} {xs : List α} {y : β} (h : f x = some y) : mapO f (x :: xs) = (mapO f xs).map (y :: ·) := by rw [mapO, h]
theorem wholeR_cons (s : ByteArray) (acc : List (List Int)) (r : List Int) (o : Option (List (List Int))) : wholeR s (acc ++ [r]) o = wholeR s acc (o.map (r :: ·)) := by
  cases o with
  | none => rfl
  | some m => simp [wholeR]
theorem chk_impl (s : ByteArray) (words : List ByteArray) (m : List (List Int)) (hm : m.length ≤ 1048576) (hr : ∀ r ∈ m, IsRow r) (j : Int) (hj : ¬ j < (words.length : Int)) : Ev (fun k => impl_ParseMemory.l0 k s words (words.length : Int) j m) (chk s m) := by
  obtain ⟨K1, e1⟩ := isMem m (by omega)
  unfold chk
  cases hok : memOk m with
  | false =>
    refine ⟨K1 + 1, fun k hk => ?_⟩
    obtain ⟨k, rfl⟩ : ∃ q, k = q + 1 := ⟨k - 1, by omega⟩
    have e1 := e1 k (by omega)
    dsimp only at e1 ⊢
    rw [impl_ParseMemory.l0, if_neg hj, e1, hok, Option.bind_some, if_neg Bool.false_ne_true, if_neg (fun q => Bool.false_ne_true q.1)]
  | true =>
    obtain ⟨K2, e2⟩ := mtext_ev m hm (fun r h => (hr r h).2) (fun r h => (memOk_each hok r h).2)
    refine ⟨K1 + K2 + 1, fun k hk => ?_⟩
    obtain ⟨k, rfl⟩ : ∃ q, k = q + 1 := ⟨k - 1, by omega⟩
    have e1 := e1 k (by omega)
    have e2 := e2 k (by omega)
    dsimp only at e1 e2 ⊢
    rw [impl_ParseMemory.l0, if_neg hj, e1, hok, Option.bind_some, if_pos rfl, e2, Option.bind_some]
    by_cases ht : textR m = s
    · rw [if_pos (tl_inj.mpr ht), if_pos ⟨rfl, ht⟩]
    · rw [if_neg (fun q => ht (tl_inj.mp q)), if_neg (fun q => ht q.2)]
theorem parse_impl_l0 (s : ByteArray) (words : List ByteArray) (hw : words.length ≤ 17) (hz : ∀ w ∈ words, w.size ≤ 1048576) (d : Nat) : ∀ (i : Nat) (acc : List (List Int)), i + d = words.length → acc.length = i → (∀ r ∈ acc, IsRow r) →
    Ev (fun k => impl_ParseMemory.l0 k s words (words.length : Int) (i : Int) acc) (wholeR s acc (mapO decI (words.drop i))) := by
  induction d with
  | zero =>
    intro i acc hi ha hr
    rw [List.drop_eq_nil_of_le (by omega)]
    show Ev _ (chk s (acc ++ []))
    rw [List.append_nil]
    exact chk_impl s words acc (by omega) hr i (by omega)
  | succ d ih =>
    intro i acc hi ha hr
    have hlt : i < words.length := by omega
    have hwz := hz _ (List.getElem_mem hlt)
    obtain ⟨K1, e1⟩ := hexBytes_ev words[i] hwz
    have hsl := size_list words[i]
    rw [List.drop_eq_getElem_cons hlt]
    cases hd : dec1 words[i].data.toList with
    | none =>
      rw [mapO_none (by unfold decI; rw [hd, ite_self])]
      refine ⟨K1 + 1, fun k hk => ?_⟩
      obtain ⟨k, rfl⟩ : ∃ q, k = q + 1 := ⟨k - 1, by omega⟩
      have e1 := e1 k (by omega)
      dsimp only at e1 ⊢
      rw [impl_ParseMemory.l0, if_pos (by omega), if_pos (by omega), if_pos (by omega), rdOf_get hlt, e1, hd, Option.bind_some]
      rfl
    | some r =>
      obtain ⟨hr1, hr2⟩ := dec1_range _ _ hd
      by_cases hev : ((words[i].size : Int) % 2 == 0) = true
      · rw [mapO_some (y := r) (by unfold decI; rw [if_pos hev, hd]), ← wholeR_cons]
        obtain ⟨K2, e2⟩ := ih (i + 1) (acc ++ [r]) (by omega) (by simp; omega) (fun q hq => by
          rcases List.mem_append.1 hq with hq | hq
          · exact hr q hq
          · obtain rfl := List.mem_singleton.1 hq; exact ⟨by omega, hr2⟩)
        refine ⟨K1 + K2 + 1, fun k hk => ?_⟩
        obtain ⟨k, rfl⟩ : ∃ q, k = q + 1 := ⟨k - 1, by omega⟩
        have e1 := e1 k (by omega)
        have e2 := e2 k (by omega)
        dsimp only at e1 e2 ⊢
        rw [impl_ParseMemory.l0, if_pos (by omega), if_pos (by omega), if_pos (by omega), rdOf_get hlt, e1, hd, Option.bind_some]
        show (if ((words[i].size : Int) % 2 == 0) = true then _ else _) = _
        rw [if_pos hev, if_pos (by omega), wrap_succ i (by omega)]
        exact e2
      · rw [mapO_none (by unfold decI; rw [if_neg hev])]
        refine ⟨K1 + 1, fun k hk => ?_⟩
        obtain ⟨k, rfl⟩ : ∃ q, k = q + 1 := ⟨k - 1, by omega⟩
        have e1 := e1 k (by omega)
        dsimp only at e1 ⊢
        rw [impl_ParseMemory.l0, if_pos (by omega), if_pos (by omega), if_pos (by omega), rdOf_get hlt, e1, hd, Option.bind_some]
        show (if ((words[i].size : Int) % 2 == 0) = true then _ else _) = _
        rw [if_neg hev]
        rfl
/-- The reference's way: 64 bytes of a word at the most, 17 words. -/
def decS (w : ByteArray) : Option (List Int) := dec1 (w.data.toList.take 128)
theorem chk_spec (s : ByteArray) (words : List ByteArray) (m : List (List Int)) (j : Int) (hm : m.length ≤ 1048576) (hr : ∀ r ∈ m, IsRow r) : Ev (fun k => spec_ParseMemory.j1 k s words j false m) (chk s m) := by
  obtain ⟨K1, e1⟩ := l2Mem m (by omega)
  unfold chk
  cases hok : memOk m with
  | false =>
    refine ⟨K1 + 1, fun k hk => ?_⟩
    obtain ⟨k, rfl⟩ : ∃ q, k = q + 1 := ⟨k - 1, by omega⟩
    have e1 := e1 k (by omega)
    dsimp only at e1 ⊢
    rw [spec_ParseMemory.j1, if_neg Bool.false_ne_true, e1, hok, Option.bind_some, if_neg Bool.false_ne_true, if_neg (fun q => Bool.false_ne_true q.1)]
  | true =>
    obtain ⟨K2, e2⟩ := ltext_ev m hm (fun r h => (hr r h).2) (fun r h => memOk_each hok r h)
    refine ⟨K1 + K2 + 1, fun k hk => ?_⟩
    obtain ⟨k, rfl⟩ : ∃ q, k = q + 1 := ⟨k - 1, by omega⟩
    have e1 := e1 k (by omega)
    have e2 := e2 k (by omega)
    dsimp only at e1 e2 ⊢
    rw [spec_ParseMemory.j1, if_neg Bool.false_ne_true, e1, hok, Option.bind_some, if_pos rfl, e2, Option.bind_some]
    by_cases ht : textR m = s
    · rw [if_pos (tl_inj.mpr ht), if_pos ⟨rfl, ht⟩]
    · rw [if_neg (fun q => ht (tl_inj.mp q)), if_neg (fun q => ht q.2)]
/-- What the inner loop hands on. -/
theorem parse_spec_l1 (s : ByteArray) (words : List ByteArray) (i : Nat) (hi : i < words.length) (hw : words[i].size ≤ 1048576) (acc : List (List Int)) (hacc : acc.length ≤ 1000) (hi17 : i ≤ 1000) (R : Option (List Int) → List (List Int) × Bool) (hn : R none = ([], false)) (n : Nat) : ∀ (p : Nat) (x7 : List Int), 128 ≤ 2 * p + n → 2 * p ≤ 128 → x7.length ≤ p →
    (∀ r, (dec1 ((words[i].data.toList.take 128).drop (2 * p)) = some r) → Ev (fun k => spec_ParseMemory.l0 k s words ((i + 1 : Nat) : Int) (acc ++ [x7 ++ r])) (R (some (x7 ++ r)))) →
    Ev (fun k => spec_ParseMemory.l1 k s words (i : Int) x7 ((2 * p : Nat) : Int) acc) (match dec1 ((words[i].data.toList.take 128).drop (2 * p)) with | none => ([], false) | some r => R (some (x7 ++ r))) := by
  have hs := size_list words[i]
  induction n using Nat.strongRecOn with
  | _ n ih =>
    intro p x7 hp hp2 hx hk
    have hlen : (words[i].data.toList.take 128).length = min 128 words[i].data.toList.length := List.length_take
    by_cases h1 : 2 * p + 1 < words[i].data.toList.length
    · by_cases h2 : 2 * p < 128
      · have hd := drop2 (l := words[i].data.toList.take 128) (i := 2 * p) (by rw [hlen]; omega)
        have hg0 : (words[i].data.toList.take 128)[2 * p]'(by rw [hlen]; omega) = words[i].data.toList[2 * p]'(by omega) := List.getElem_take
        have hg1 : (words[i].data.toList.take 128)[2 * p + 1]'(by rw [hlen]; omega) = words[i].data.toList[2 * p + 1]'h1 := List.getElem_take
        rw [hg0, hg1] at hd
        have hr0 := hv_range (words[i].data.toList[2 * p]'(by omega))
        have hr1 := hv_range (words[i].data.toList[2 * p + 1]'h1)
        have hb0 := bt_get words[i] (2 * p) (by omega)
        have hb1 := bt_get words[i] (2 * p + 1) h1
        obtain ⟨K0, e0⟩ := dig_ev (words[i].data.toList[2 * p]'(by omega))
        obtain ⟨K1, e1⟩ := dig_ev (words[i].data.toList[2 * p + 1]'h1)
        rw [hd, dec1] at hk ⊢
        by_cases h3 : hv (words[i].data.toList[2 * p]'(by omega)) < 0
        · rw [if_pos h3]
          refine ⟨K0 + K1 + 2, fun k hk => ?_⟩
          obtain ⟨k, rfl⟩ : ∃ q, k = q + 1 + 1 := ⟨k - 2, by omega⟩
          have e0 := e0 k (by omega)
          have e1 := e1 k (by omega)
          dsimp only at e0 e1 ⊢
          rw [spec_ParseMemory.l1, if_pos (by omega), if_pos (by omega), rdOf_get hi, wrap_succ (2 * p) (by omega), if_pos (by omega), decide_eq_true (by omega), spec_ParseMemory.j3, if_pos rfl, if_pos (by omega), if_pos (by omega), if_pos (by omega), rdOf_get hi, if_pos (by omega), hb0, e0, Option.bind_some, wrap_succ (2 * p) (by omega), if_pos (by omega), if_pos (by omega), hb1, e1, Option.bind_some, if_pos h3]
        · by_cases h4 : hv (words[i].data.toList[2 * p + 1]'h1) < 0
          · rw [if_neg h3, if_pos h4]
            refine ⟨K0 + K1 + 2, fun k hk => ?_⟩
            obtain ⟨k, rfl⟩ : ∃ q, k = q + 1 + 1 := ⟨k - 2, by omega⟩
            have e0 := e0 k (by omega)
            have e1 := e1 k (by omega)
            dsimp only at e0 e1 ⊢
            rw [spec_ParseMemory.l1, if_pos (by omega), if_pos (by omega), rdOf_get hi, wrap_succ (2 * p) (by omega), if_pos (by omega), decide_eq_true (by omega), spec_ParseMemory.j3, if_pos rfl, if_pos (by omega), if_pos (by omega), if_pos (by omega), rdOf_get hi, if_pos (by omega), hb0, e0, Option.bind_some, wrap_succ (2 * p) (by omega), if_pos (by omega), if_pos (by omega), hb1, e1, Option.bind_some, if_neg h3, if_pos h4]
          · rw [if_neg h3, if_neg h4] at hk ⊢
            obtain ⟨y, hy⟩ : ∃ y, y = 16 * hv (words[i].data.toList[2 * p]'(by omega)) + hv (words[i].data.toList[2 * p + 1]'h1) := ⟨_, rfl⟩
            rw [← hy] at hk ⊢
            have h5 := ih (n - 2) (by omega) (p + 1) (x7 ++ [y]) (by omega) (by omega) (by simp; omega) (fun r hr => by
              have := hk (y :: r) (by rw [show 2 * p + 2 = 2 * (p + 1) by omega, hr]; rfl)
              rw [List.append_assoc x7 [y] r]
              exact this)
            have e5 : (match dec1 ((words[i].data.toList.take 128).drop (2 * (p + 1))) with | none => (([] : List (List Int)), false) | some r => R (some (x7 ++ [y] ++ r))) = (match (dec1 ((words[i].data.toList.take 128).drop (2 * p + 2))).map (fun q => y :: q) with | none => (([] : List (List Int)), false) | some r => R (some (x7 ++ r))) := by
              rw [show 2 * (p + 1) = 2 * p + 2 by omega]
              cases dec1 ((words[i].data.toList.take 128).drop (2 * p + 2)) with
              | none => rfl
              | some r => show R (some (x7 ++ [y] ++ r)) = R (some (x7 ++ y :: r)); rw [List.append_assoc]; rfl
            rw [e5] at h5
            obtain ⟨K2, e2⟩ := h5
            refine ⟨K0 + K1 + K2 + 2, fun k hk => ?_⟩
            obtain ⟨k, rfl⟩ : ∃ q, k = q + 1 + 1 := ⟨k - 2, by omega⟩
            have e0 := e0 k (by omega)
            have e1 := e1 k (by omega)
            have e2 := e2 k (by omega)
            dsimp only at e0 e1 e2 ⊢
            rw [spec_ParseMemory.l1, if_pos (by omega), if_pos (by omega), rdOf_get hi, wrap_succ (2 * p) (by omega), if_pos (by omega), decide_eq_true (by omega), spec_ParseMemory.j3, if_pos rfl, if_pos (by omega), if_pos (by omega), if_pos (by omega), rdOf_get hi, if_pos (by omega), hb0, e0, Option.bind_some, wrap_succ (2 * p) (by omega), if_pos (by omega), if_pos (by omega), hb1, e1, Option.bind_some, if_neg h3, if_neg h4, if_pos (by omega), wrap_in (x := 16 * hv (words[i].data.toList[2 * p]'(by omega))) (by omega) (by omega), ← hy, wrap_in (x := y) (by omega) (by omega), show y % 256 = y by omega, wrap_in (x := ((2 * p : Nat) : Int) + 2) (by omega) (by omega), show ((2 * p : Nat) : Int) + 2 = ((2 * (p + 1) : Nat) : Int) by omega]
            exact e2
      · rw [dec1_short (by rw [List.length_drop, hlen]; omega)] at hk ⊢
        obtain ⟨K2, e2⟩ := hk [] rfl
        refine ⟨K2 + 2, fun k hk => ?_⟩
        obtain ⟨k, rfl⟩ : ∃ q, k = q + 1 + 1 := ⟨k - 2, by omega⟩
        have e2 := e2 k (by omega)
        dsimp only at e2 ⊢
        rw [List.append_nil] at e2 ⊢
        rw [spec_ParseMemory.l1, if_pos (by omega), if_pos (by omega), rdOf_get hi, wrap_succ (2 * p) (by omega), if_pos (by omega), decide_eq_false (by omega), spec_ParseMemory.j3, if_neg Bool.false_ne_true, if_pos (by omega), wrap_succ i (by omega)]
        exact e2
    · rw [dec1_short (by rw [List.length_drop, hlen]; omega)] at hk ⊢
      obtain ⟨K2, e2⟩ := hk [] rfl
      refine ⟨K2 + 2, fun k hk => ?_⟩
      obtain ⟨k, rfl⟩ : ∃ q, k = q + 1 + 1 := ⟨k - 2, by omega⟩
      have e2 := e2 k (by omega)
      dsimp only at e2 ⊢
      rw [List.append_nil] at e2 ⊢
      rw [spec_ParseMemory.l1, if_pos (by omega), if_pos (by omega), rdOf_get hi, wrap_succ (2 * p) (by omega), if_neg (by omega), spec_ParseMemory.j3, if_neg Bool.false_ne_true, if_pos (by omega), wrap_succ i (by omega)]
      exact e2
theorem parse_spec_l0 (s : ByteArray) (words : List ByteArray) (hw : words.length ≤ 1048577) (hz : ∀ w ∈ words, w.size ≤ 1048576) (d : Nat) : ∀ (i : Nat) (acc : List (List Int)), i + d = 17 → acc.length = i → i ≤ words.length → (∀ r ∈ acc, IsRow r) →
    Ev (fun k => spec_ParseMemory.l0 k s words (i : Int) acc) (wholeR s acc (mapO decS ((words.take 17).drop i))) := by
  induction d with
  | zero =>
    intro i acc hi ha hil hr
    rw [List.drop_eq_nil_of_le (by rw [List.length_take]; omega)]
    show Ev _ (chk s (acc ++ []))
    rw [List.append_nil]
    have h := chk_spec s words acc (i : Int) (by omega) hr
    refine Ev.step (fun k => ?_) h
    rw [spec_ParseMemory.l0]
    by_cases h1 : (i : Int) < (words.length : Int)
    · rw [if_pos h1, decide_eq_false (by omega)]
    · rw [if_neg h1]
  | succ d ih =>
    intro i acc hi ha hil hr
    by_cases h1 : i < words.length
    · have hlt : i < (words.take 17).length := by rw [List.length_take]; omega
      have hg : (words.take 17)[i] = words[i] := List.getElem_take
      have hwz := hz _ (List.getElem_mem h1)
      rw [List.drop_eq_getElem_cons hlt, hg]
      have h := parse_spec_l1 s words i h1 hwz acc (by omega) (by omega) (fun o => wholeR s acc (match o with | none => none | some r => (mapO decS ((words.take 17).drop (i + 1))).map (r :: ·))) rfl 128 0 [] (by omega) (by omega) (by simp) (fun r hr2 => by
        rw [List.nil_append]
        show Ev _ (wholeR s acc ((mapO decS ((words.take 17).drop (i + 1))).map (r :: ·)))
        rw [← wholeR_cons]
        have hrg := dec1_range _ _ hr2
        have hlen : ((words[i].data.toList.take 128).drop (2 * 0)).length ≤ 128 := by rw [List.length_drop, List.length_take]; omega
        exact ih (i + 1) (acc ++ [r]) (by omega) (by simp; omega) (by omega) (fun q hq => by
          rcases List.mem_append.1 hq with hq | hq
          · exact hr q hq
          · obtain rfl := List.mem_singleton.1 hq; exact ⟨by omega, hrg.2⟩))
      have e : (match dec1 ((words[i].data.toList.take 128).drop (2 * 0)) with | none => (([] : List (List Int)), false) | some r => (fun o => wholeR s acc (match o with | none => none | some r => (mapO decS ((words.take 17).drop (i + 1))).map (r :: ·))) (some ([] ++ r))) = wholeR s acc (mapO decS (words[i] :: (words.take 17).drop (i + 1))) := by
        rw [mapO]
        unfold decS
        rw [Nat.mul_zero, List.drop_zero]
        cases dec1 (words[i].data.toList.take 128) with
        | none => rfl
        | some r => rfl
      rw [e] at h
      refine Ev.step (f := fun k => spec_ParseMemory.j1 k s words (i : Int) true acc) (fun k => ?_) (Ev.step (fun k => ?_) h)
      · rw [spec_ParseMemory.l0, if_pos (by omega), decide_eq_true (by omega)]
      · rw [spec_ParseMemory.j1, if_pos rfl]; rfl
    · rw [List.drop_eq_nil_of_le (by rw [List.length_take]; omega)]
      show Ev _ (chk s (acc ++ []))
      rw [List.append_nil]
      have h := chk_spec s words acc (i : Int) (by omega) hr
      refine Ev.step (fun k => ?_) h
      rw [spec_ParseMemory.l0, if_neg (by omega)]
end Go.Proofs.YtlcikalgphafaaaDoor.P
