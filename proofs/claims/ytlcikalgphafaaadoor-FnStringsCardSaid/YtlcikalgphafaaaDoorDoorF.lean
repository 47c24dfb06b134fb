/- What a row's first world holds of the library's variables, carried along; the contracts of strconv.Itoa, strings.Cut and strings.Split over the shelf's. -/
import Derived.Test.YtlcikalgphafaaaDoorShelfA
import Derived.Test.YtlcikalgphafaaaDoorPx0
import Derived.Lib.SmallJoins
namespace Go.Proofs.YtlcikalgphafaaaDoor.P
open Go.RowKit Go.Proofs.YtlcikalgphafaaaDoorW.PrintWords Go.Proofs.YtlcikalgphafaaaDoorW.PrintLast Go.Proofs.YtlcikalgphafaaaDoorW.PrintMore
set_option linter.unusedVariables false
set_option linter.unusedSimpArgs false
/-- The table of powers of ten. -/
def TabA (w : World) : Prop := Lib.TabIs Tryd.prog w "internal/strconv.uint64pow10" .u64 Lib.pow10Tab
theorem TabA.below {w w' : World} (h : TabA w) (hb : Below w.heap.size w w') : TabA w' := Go.Joins.tab_stays (g := 3) (by kernel_rfl) h hb (Nat.le_refl _)
/-- internal/bytealg.MaxLen holds some int. -/
def TabB (w : World) : Prop := ∃ m, w.cell? ⟨2, 0, none⟩ = some (.int .i64 m)
theorem TabB.below {w w' : World} (h : TabB w) (hb : Below w.heap.size w w') : TabB w' := by
  obtain ⟨m, hm⟩ := h
  exact ⟨m, (hb.cell (World.block_lt_of_cell? _ _ hm)).trans hm⟩
def strconv_Itoa_54.f (n : Int) : Option ByteArray := if -9223372036854775808 ≤ n ∧ n ≤ 9223372036854775807 then some ⟨(Lib.itoa n).toArray⟩ else none
theorem strconv_Itoa_54.calls (n : Int) (r : ByteArray) (w : World) (h : strconv_Itoa_54.f n = some r) (HTA : Aside0 (TabA w) := by exact ⟨TabA.below HTA.out (by repeat (first | (with_reducible first | exact HB.out | apply below_alloc | apply pw_below_drewN | apply below_drew1 | refine below_set ?_ (Aside0.out (by assumption))) | exact HB.out))⟩) :
    Calls Tryd.prog 54 #[.int .i64 n] w fun e w' => e = .returned (.string r) ∧ Below w.heap.size w w' := by
  unfold strconv_Itoa_54.f at h
  by_cases h1 : -9223372036854775808 ≤ n ∧ n ≤ 9223372036854775807
  · rw [if_pos h1] at h
    obtain rfl := Option.some.inj h
    refine (Tryd.strconv_Itoa n h1.1 h1.2 w HTA.out).mono ?_
    rintro e w' ⟨rfl, k, os, rfl⟩
    exact ⟨rfl, rfl, rfl, rfl, by show w.heap.size ≤ (w.heap ++ os).size; rw [Array.size_append]; omega, fun j hj => by show (w.heap ++ os)[j]? = _; rw [Array.getElem?_append, if_pos hj]⟩
  · rw [if_neg h1] at h; cases h
def strings_Cut.f (s sep : ByteArray) : Option (ByteArray × ByteArray × Bool) := if s.size < 4294967281 then some (⟨(Lib.cut s.data.toList sep.data.toList).1.toArray⟩, ⟨(Lib.cut s.data.toList sep.data.toList).2.1.toArray⟩, (Lib.cut s.data.toList sep.data.toList).2.2) else none
theorem strings_Cut.calls (s sep : ByteArray) (r1 r2 : ByteArray) (r3 : Bool) (w : World) (h : strings_Cut.f s sep = some (r1, r2, r3)) (HTB : Aside0 (TabB w) := by exact ⟨TabB.below HTB.out (by repeat (first | (with_reducible first | exact HB.out | apply below_alloc | apply pw_below_drewN | apply below_drew1 | refine below_set ?_ (Aside0.out (by assumption))) | exact HB.out))⟩) :
    Calls Tryd.prog 66 #[.string s, .string sep] w fun e w' => e = .returned (.tuple #[.string r1, .string r2, .bool r3]) ∧ Below w.heap.size w w' := by
  unfold strings_Cut.f at h
  by_cases h1 : s.size < 4294967281
  · rw [if_pos h1] at h
    simp only [Option.some.injEq, Prod.mk.injEq] at h
    obtain ⟨rfl, rfl, rfl⟩ := h
    obtain ⟨m, hm⟩ := HTB.out
    refine (Tryd.strings_Cut s sep m w h1 hm).mono ?_
    rintro e w' ⟨rfl, k, rfl⟩
    exact ⟨rfl, pw_below_drewN (Below.refl _ _) _⟩
  · rw [if_neg h1] at h; cases h
def strings_Split.f (s sep : ByteArray) : Option (List ByteArray) := if s.size < 4294967281 ∧ 1 ≤ sep.size then some (Lib.splitB sep 0 (Lib.countB s sep) s) else none
theorem strings_Split.calls (s sep : ByteArray) (r : List ByteArray) (w : World) (h : strings_Split.f s sep = some r) (HTB : Aside0 (TabB w) := by exact ⟨TabB.below HTB.out (by repeat (first | (with_reducible first | exact HB.out | apply below_alloc | apply pw_below_drewN | apply below_drew1 | refine below_set ?_ (Aside0.out (by assumption))) | exact HB.out))⟩) :
    Calls Tryd.prog 67 #[.string s, .string sep] w fun e w' => ∃ v0_ : Value, e = .returned (v0_) ∧ Kd.R Kd.string 9 w' w.heap.size (fun _ => True) v0_ r ∧ Below w.heap.size w w' := by
  unfold strings_Split.f at h
  by_cases h1 : s.size < 4294967281 ∧ 1 ≤ sep.size
  · rw [if_pos h1] at h
    obtain rfl := Option.some.inj h
    obtain ⟨m, hm⟩ := HTB.out
    refine (Tryd.strings_Split s sep m w h1.1 hm h1.2).mono ?_
    rintro e w' ⟨rfl, rfl⟩
    have hl := Lib.splitB_all sep h1.2 0 _ s rfl
    have hc := Lib.countB_le sep h1.2 s.size s (Nat.le_refl _)
    refine ⟨_, rfl, ⟨fun _ _ => trivial, encs Value.string (Lib.splitB sep 0 (Lib.countB s sep) s), ?_, Kd.reps_scalar _⟩, below_alloc (Below.refl _ _) _⟩
    have ho := World.ownsRow_lit (base := w.heap.size) (e := 9) (size := 1) w ((Lib.splitB sep 0 (Lib.countB s sep) s).map Value.string).toArray (Lib.countB s sep + 1) (Nat.le_refl _) (by show _ ≤ 9223372036854775807; omega) (by rw [List.size_toArray, List.length_map, hl]; omega)
    rw [hl]
    exact ho
  · rw [if_neg h1] at h; cases h
theorem R_cells (w : World) (xs : List ByteArray) (N : Nat) (hN : xs.length ≤ N) (hm : N ≤ 9223372036854775807) (cs : Array Value) (hcs : cs.size = N) (ht : cs.toList.take xs.length = xs.map Value.string) : Kd.R Kd.string 9 (w.alloc (.cells cs 9)) w.heap.size (fun _ => True) (.slice (some ⟨w.heap.size, 0, none⟩) xs.length N) xs := by
  refine ⟨fun _ _ => trivial, encs Value.string xs, ⟨by simp [encs, Kd.string, Kd.scalar], .inr ⟨w.heap.size, N, cs, rfl, Nat.le_refl _, heap_alloc_new w _, hN, hm, ?_, ?_⟩⟩, Kd.reps_scalar _⟩
  · show cs.size = N * 1
    omega
  · show cs.toList.take (xs.length * 1) = _
    rw [Nat.mul_one]
    exact ht
def strings_SplitN.f (s sep : ByteArray) (n : Int) : Option (List ByteArray) := if s.size < 4294967281 ∧ 1 ≤ sep.size ∧ 1 ≤ n ∧ n ≤ 9223372036854775807 then some (Lib.splitB sep 0 (min n.toNat (s.size + 1) - 1) s) else none
theorem strings_SplitN.calls (s sep : ByteArray) (n : Int) (r : List ByteArray) (w : World) (h : strings_SplitN.f s sep n = some r) (HTB : Aside0 (TabB w) := by exact ⟨TabB.below HTB.out (by repeat (first | (with_reducible first | exact HB.out | apply below_alloc | apply pw_below_drewN | apply below_drew1 | refine below_set ?_ (Aside0.out (by assumption))) | exact HB.out))⟩) :
    Calls Tryd.prog 83 #[.string s, .string sep, .int .i64 n] w fun e w' => ∃ v0_ : Value, e = .returned (v0_) ∧ Kd.R Kd.string 9 w' w.heap.size (fun _ => True) v0_ r ∧ Below w.heap.size w w' := by
  unfold strings_SplitN.f at h
  by_cases h1 : s.size < 4294967281 ∧ 1 ≤ sep.size ∧ 1 ≤ n ∧ n ≤ 9223372036854775807
  · rw [if_pos h1] at h
    obtain rfl := Option.some.inj h
    obtain ⟨m, hm⟩ := HTB.out
    obtain ⟨q, rfl⟩ : ∃ q : Nat, n = (q : Int) := ⟨n.toNat, by omega⟩
    rw [Int.toNat_natCast]
    refine (Tryd.strings_SplitN s sep q m w h1.1 hm h1.2.1 (by omega) (by omega)).mono ?_
    rintro e w' ⟨rfl, rfl⟩
    have hl := Lib.splitB_length_le sep 0 (min q (s.size + 1) - 1) s
    have hle : (Lib.splitB sep 0 (min q (s.size + 1) - 1) s).length ≤ min q (s.size + 1) := by omega
    refine ⟨_, rfl, R_cells w _ _ hle (by omega) _ ?_ ?_, below_alloc (Below.refl _ _) _⟩
    · simp [Lib.cellsOf]; omega
    · simp [Lib.cellsOf]
  · rw [if_neg h1] at h; cases h
def strings_IndexByte.f (s : ByteArray) (c : Int) : Option Int := some (Lib.indexByte s.data.toList c.toNat.toUInt8)
theorem strings_IndexByte.calls (s : ByteArray) (c : Int) (r : Int) (w : World) (h : strings_IndexByte.f s c = some r) :
    Calls Tryd.prog 107 #[.string s, .int .u8 c] w fun e w' => e = .returned (.int .i64 r) ∧ Drawn0 w w' := by
  obtain rfl := Option.some.inj h
  refine (Tryd.strings_IndexByte s c w).mono ?_
  rintro e w' ⟨rfl, rfl⟩
  exact ⟨rfl, Drawn0.refl _⟩
end Go.Proofs.YtlcikalgphafaaaDoor.P
