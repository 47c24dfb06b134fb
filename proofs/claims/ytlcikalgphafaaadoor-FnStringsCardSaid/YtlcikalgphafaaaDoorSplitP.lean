/- Plain lemmas: the parts of a text between bytes, as the reference finds them and as the library does. No program, no memory. -/
import Derived.Test.YtlcikalgphafaaaDoorStrQ
import Derived.Test.YtlcikalgphafaaaDoorPx1
import Derived.Test.YtlcikalgphafaaaDoorDoorF
import Derived.Test.YtlcikalgphafaaaDoorBase
import Derived.Test.YtlcikalgphafaaaDoorTexts
import Derived.Lib.SplitLaws
import Derived.Lib.IndexBytes
namespace Go.Proofs.YtlcikalgphafaaaDoor.P
open Go.RowKit Go.Proofs.YtlcikalgphafaaaDoorW.PrintWords Go.Proofs.YtlcikalgphafaaaDoorW.PrintLast Go.Proofs.YtlcikalgphafaaaDoorW.PrintMore
set_option linter.unusedVariables false
set_option linter.unusedSimpArgs false
/-- The parts of a text between the bytes c. -/
def parts (c : UInt8) : List UInt8 → List (List UInt8)
  | [] => [[]]
  | b :: l => if b = c then [] :: parts c l else match parts c l with
    | [] => [[b]]
    | p :: ps => (b :: p) :: ps
theorem parts_ne (c : UInt8) : ∀ l, ∃ p ps, parts c l = p :: ps
  | [] => ⟨[], [], rfl⟩
  | b :: l => by
    obtain ⟨p, ps, e⟩ := parts_ne c l
    rw [parts]
    by_cases h : b = c
    · rw [if_pos h]; exact ⟨_, _, rfl⟩
    · rw [if_neg h, e]; exact ⟨_, _, rfl⟩
theorem parts_eq (c : UInt8) (l : List UInt8) : parts c (c :: l) = [] :: parts c l := by rw [parts, if_pos rfl]
theorem parts_cons (c b : UInt8) (l : List UInt8) (h : b ≠ c) {p : List UInt8} {ps : List (List UInt8)} (e : parts c l = p :: ps) : parts c (b :: l) = (b :: p) :: ps := by rw [parts, if_neg h, e]
theorem ib_cons (b c : UInt8) (l : List UInt8) : Lib.indexByte (b :: l) c = if b = c then 0 else if Lib.indexByte l c = -1 then -1 else Lib.indexByte l c + 1 := by
  rw [Lib.indexByte]
  by_cases h : b = c
  · subst h; simp
  · rw [if_neg h, if_neg (by simpa using h)]
    by_cases h2 : Lib.indexByte l c = -1
    · rw [h2]; rfl
    · rw [if_neg h2, if_neg (by simpa using h2)]
theorem parts_miss (c : UInt8) : ∀ l, Lib.indexByte l c = -1 → parts c l = [l]
  | [], _ => rfl
  | b :: l, h => by
    have hg := Lib.indexByte_ge l c
    rw [ib_cons] at h
    by_cases h1 : b = c
    · rw [if_pos h1] at h; omega
    · rw [if_neg h1] at h
      by_cases h2 : Lib.indexByte l c = -1
      · exact parts_cons c b l h1 (parts_miss c l h2)
      · rw [if_neg h2] at h; omega
theorem parts_hit (c : UInt8) : ∀ (l : List UInt8) (i : Nat), Lib.indexByte l c = i → parts c l = l.take i :: parts c (l.drop (i + 1))
  | [], i, h => by
    have : Lib.indexByte [] c = -1 := rfl
    omega
  | b :: l, i, h => by
    have hg := Lib.indexByte_ge l c
    rw [ib_cons] at h
    by_cases h1 : b = c
    · rw [if_pos h1] at h
      obtain rfl : i = 0 := by omega
      subst h1
      rw [parts_eq]; rfl
    · rw [if_neg h1] at h
      by_cases h2 : Lib.indexByte l c = -1
      · rw [if_pos h2] at h; omega
      · rw [if_neg h2] at h
        obtain ⟨j, rfl⟩ : ∃ j, i = j + 1 := ⟨i - 1, by omega⟩
        rw [parts_cons c b l h1 (parts_hit c l j (by omega))]
        rfl
theorem splitK_parts (c : UInt8) : ∀ (k : Nat) (l : List UInt8), Lib.count l [c] = k → Lib.splitK [c] 0 k l = parts c l := by
  intro k
  induction k with
  | zero =>
    intro l h
    have hg := Lib.indexByte_ge l c
    rw [parts_miss c l]
    · rfl
    · rcases Int.lt_or_le (Lib.indexByte l c) 0 with h1 | h1
      · omega
      · have h2 := Lib.count_hit (s := l) (sub := [c]) (i := (Lib.indexByte l c).toNat) (by simp) (by rw [Lib.index_one]; omega)
        omega
  | succ k ih =>
    intro l h
    have hg := Lib.indexByte_ge l c
    rcases Int.lt_or_le (Lib.indexByte l c) 0 with h1 | h1
    · have h2 := Lib.count_miss (s := l) (sub := [c]) (by rw [Lib.index_one]; omega)
      omega
    · have h2 := Lib.count_hit (s := l) (sub := [c]) (i := (Lib.indexByte l c).toNat) (by simp) (by rw [Lib.index_one]; omega)
      rw [parts_hit c l (Lib.indexByte l c).toNat (by omega), Lib.splitK, Lib.index_one, if_neg (by simp only [beq_iff_eq]; omega), Nat.add_zero, show ([c] : List UInt8).length = 1 from rfl]
      rw [show ([c] : List UInt8).length = 1 from rfl] at h2
      rw [ih _ (by omega)]
def baOf (l : List UInt8) : ByteArray := ⟨l.toArray⟩
theorem splitB_parts (s sep : ByteArray) (c : UInt8) (hs : sep.data.toList = [c]) : Lib.splitB sep 0 (Lib.countB s sep) s = (parts c s.data.toList).map baOf := by
  have h := Lib.splitB_data sep 0 (Lib.countB s sep) s
  have hc : Lib.countB s sep = Lib.count s.data.toList [c] := by rw [← hs, Lib.countB]
  rw [hs, hc, splitK_parts c _ _ rfl] at h
  rw [← h, List.map_map, hc]
  conv => lhs; rw [← List.map_id (Lib.splitB sep 0 (Lib.count s.data.toList [c]) s)]
  apply List.map_congr_left
  intro x _
  exact ba_ext rfl
theorem cut_parts (s sep : List UInt8) (c : UInt8) (hs : sep = [c]) : ∃ ps, parts c s = (Lib.cut s sep).1 :: ps := by
  subst hs
  have hg := Lib.indexByte_ge s c
  unfold Lib.cut
  rw [Lib.index_one]
  by_cases h : 0 ≤ Lib.indexByte s c
  · rw [if_pos h]; exact ⟨_, parts_hit c s _ (by omega)⟩
  · rw [if_neg h]; exact ⟨[], parts_miss c s (by omega)⟩
theorem cut_has (s : List UInt8) (c : UInt8) : Lib.indexByte (Lib.cut s [c]).1 c = -1 := by
  have hg := Lib.indexByte_ge s c
  unfold Lib.cut
  rw [Lib.index_one]
  by_cases h : 0 ≤ Lib.indexByte s c
  · rw [if_pos h]
    have h2 := Lib.indexByte_some (l := s) (c := c) (o := (Lib.indexByte s c).toNat) (by omega)
    have hq := Lib.indexByte_ge (s.take (Lib.indexByte s c).toNat) c
    rcases Int.lt_or_le (Lib.indexByte (s.take (Lib.indexByte s c).toNat) c) 0 with h3 | h3
    · show Lib.indexByte (s.take (Lib.indexByte s c).toNat) c = -1
      omega
    · exfalso
      have h4 := (Lib.indexByte_some (l := s.take (Lib.indexByte s c).toNat) (c := c) (o := (Lib.indexByte (s.take (Lib.indexByte s c).toNat) c).toNat) (by omega)).1
      rw [List.getElem?_take] at h4
      by_cases h5 : (Lib.indexByte (s.take (Lib.indexByte s c).toNat) c).toNat < (Lib.indexByte s c).toNat
      · rw [if_pos h5] at h4
        exact h2.2 _ h5 h4
      · rw [if_neg h5] at h4; cases h4
  · rw [if_neg h]; show Lib.indexByte s c = -1; omega
/-- What the reference's loop still has to give: the part begun, and the parts behind. -/
def glue (pre : List UInt8) : List (List UInt8) → List ByteArray
  | [] => []
  | p :: ps => baOf (pre ++ p) :: ps.map baOf
theorem glue_nil (c : UInt8) (l : List UInt8) : glue [] (parts c l) = (parts c l).map baOf := by
  obtain ⟨p, ps, e⟩ := parts_ne c l
  rw [e]; rfl
theorem parts_len (c : UInt8) : ∀ l, (parts c l).length ≤ l.length + 1
  | [] => by simp [parts]
  | b :: l => by
    have ih := parts_len c l
    obtain ⟨p, ps, e⟩ := parts_ne c l
    by_cases h : b = c
    · subst h; rw [parts_eq]; simp only [List.length_cons]; omega
    · rw [parts_cons c b l h e]; rw [e] at ih; simp only [List.length_cons] at ih ⊢; omega
theorem parts_mem (c : UInt8) : ∀ l, ∀ p ∈ parts c l, p.length ≤ l.length
  | [], p, hp => by
    rw [parts] at hp
    obtain rfl := List.mem_singleton.1 hp
    exact Nat.le_refl _
  | b :: l, p, hp => by
    have ih := parts_mem c l
    obtain ⟨q, qs, e⟩ := parts_ne c l
    by_cases h : b = c
    · subst h
      rw [parts_eq] at hp
      rcases List.mem_cons.1 hp with rfl | hp
      · simp
      · have := ih p hp; simp only [List.length_cons]; omega
    · rw [parts_cons c b l h e] at hp
      rw [e] at ih
      rcases List.mem_cons.1 hp with rfl | hp
      · have := ih q List.mem_cons_self; simp only [List.length_cons]; omega
      · have := ih p (List.mem_cons_of_mem _ hp); simp only [List.length_cons]; omega
theorem split_l0 (x : ByteArray) (c : UInt8) (hx : x.size ≤ 1048576) (d : Nat) : ∀ (i f : Nat) (acc : List ByteArray), i + d = x.data.toList.length → f ≤ i → acc.length ≤ i →
    Ev (fun k => spec_l1Split.l0 k x (c.toNat : Int) acc (f : Int) (i : Int)) (acc ++ glue ((x.data.toList.take i).drop f) (parts c (x.data.toList.drop i))) := by
  have hs := size_list x
  induction d with
  | zero =>
    intro i f acc hi hf ha
    refine Ev.end_ (fun k => ?_)
    rw [spec_l1Split.l0, if_neg (by omega), if_pos (by omega), if_pos (by omega), if_pos (by omega), List.drop_eq_nil_of_le (by omega : x.data.toList.length ≤ i)]
    refine congrArg some ?_
    show acc ++ [x.extract (f : Int).toNat x.size] = acc ++ [baOf ((x.data.toList.take i).drop f ++ [])]
    congr 2
    apply ba_ext
    rw [Int.toNat_natCast, List.append_nil, List.take_of_length_le (by omega)]
    show (x.extract f x.size).data.toList = _
    simp only [ByteArray.data_extract, Array.toList_extract, List.extract_eq_take_drop]
    rw [List.take_of_length_le (by simp only [List.length_drop]; omega)]
    rfl
  | succ d ih =>
    intro i f acc hi hf ha
    have hlt : i < x.data.toList.length := by omega
    obtain ⟨p, ps, e⟩ := parts_ne c (x.data.toList.drop (i + 1))
    by_cases h : x.data.toList[i] = c
    · have h2 := ih (i + 1) (i + 1) (acc ++ [x.extract f i]) (by omega) (by omega) (by simp; omega)
      have e2 : acc ++ [x.extract f i] ++ glue ((x.data.toList.take (i + 1)).drop (i + 1)) (parts c (x.data.toList.drop (i + 1))) = acc ++ glue ((x.data.toList.take i).drop f) (parts c (x.data.toList.drop i)) := by
        rw [List.drop_eq_getElem_cons hlt, h, parts_eq, List.drop_eq_nil_of_le (by simp; omega : (x.data.toList.take (i + 1)).length ≤ i + 1), glue_nil, List.append_assoc]
        show acc ++ ([x.extract f i] ++ (parts c (x.data.toList.drop (i + 1))).map baOf) = acc ++ (baOf ((x.data.toList.take i).drop f ++ []) :: (parts c (x.data.toList.drop (i + 1))).map baOf)
        rw [List.append_nil, show x.extract f i = baOf ((x.data.toList.take i).drop f) from ba_ext (by
          show (x.extract f i).data.toList = _
          simp only [ByteArray.data_extract, Array.toList_extract, List.extract_eq_take_drop]
          rw [List.drop_take]; rfl)]
        rfl
      rw [e2] at h2
      refine Ev.step (fun k => ?_) h2
      rw [spec_l1Split.l0, if_pos (by omega), if_pos (by omega), bt_get x i hlt, if_pos (by rw [h]), if_pos (by omega), if_pos (by omega), if_pos (by omega), if_pos (by omega), wrap_succ i (by omega), Int.toNat_natCast, Int.toNat_natCast]
    · have h2 := ih (i + 1) f acc (by omega) (by omega) (by omega)
      have e2 : glue ((x.data.toList.take (i + 1)).drop f) (parts c (x.data.toList.drop (i + 1))) = glue ((x.data.toList.take i).drop f) (parts c (x.data.toList.drop i)) := by
        rw [List.drop_eq_getElem_cons hlt, parts_cons c _ _ h e, e]
        show baOf ((x.data.toList.take (i + 1)).drop f ++ p) :: _ = baOf ((x.data.toList.take i).drop f ++ (x.data.toList[i] :: p)) :: _
        rw [List.take_succ_eq_append_getElem hlt, List.drop_append_of_le_length (by simp; omega)]
        simp
      rw [e2] at h2
      refine Ev.step (fun k => ?_) h2
      rw [spec_l1Split.l0, if_pos (by omega), if_pos (by omega), bt_get x i hlt, if_neg (fun q => h (UInt8.toNat_inj.mp (by omega))), wrap_succ i (by omega)]
theorem split_ev (x : ByteArray) (c : UInt8) (hx : x.size ≤ 1048576) : Ev (fun k => spec_l1Split.f k x (c.toNat : Int)) ((parts c x.data.toList).map baOf) := by
  have := split_l0 x c hx x.data.toList.length 0 0 [] (by omega) (by omega) (by simp)
  rw [List.take_zero, List.drop_zero, List.drop_zero, glue_nil, List.nil_append] at this
  exact this
theorem parts_app (c : UInt8) : ∀ (w rest : List UInt8), (∀ b ∈ w, b ≠ c) → parts c (w ++ c :: rest) = w :: parts c rest
  | [], rest, _ => parts_eq c rest
  | b :: w, rest, h => parts_cons c b _ (h b List.mem_cons_self) (parts_app c w rest (fun x hx => h x (List.mem_cons_of_mem _ hx)))
end Go.Proofs.YtlcikalgphafaaaDoor.P
