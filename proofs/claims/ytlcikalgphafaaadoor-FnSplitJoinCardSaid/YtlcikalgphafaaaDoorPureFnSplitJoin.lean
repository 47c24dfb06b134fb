/- The law FnSplitJoin answers true for every input. No condition beyond the row's own. -/
import Derived.Test.YtlcikalgphafaaaDoorStFnSplitJoin
import Derived.Test.YtlcikalgphafaaaDoorDrawS
import Derived.Test.YtlcikalgphafaaaDoorJoinP
import Derived.Test.YtlcikalgphafaaaDoorSplitP
import Derived.Test.YtlcikalgphafaaaDoorPx10
import Derived.Test.YtlcikalgphafaaaDoorStrQ
namespace Go.Proofs.YtlcikalgphafaaaDoor.P
open Go.RowKit Go.Proofs.YtlcikalgphafaaaDoorW.PrintWords Go.Proofs.YtlcikalgphafaaaDoorW.PrintLast Go.Proofs.YtlcikalgphafaaaDoorW.PrintMore
set_option linter.unusedVariables false
set_option linter.unusedSimpArgs false
theorem join_parts (c : UInt8) : ∀ l : List UInt8, Lib.join (parts c l) [c] = l
  | [] => rfl
  | b :: l => by
    have ih := join_parts c l
    obtain ⟨p, ps, e⟩ := parts_ne c l
    rw [e] at ih
    by_cases h : b = c
    · subst h
      rw [parts_eq, e]
      rw [Lib.join_cons] at ih ⊢
      simp only [Lib.joinTail, List.flatten_cons, List.map_cons] at ih ⊢
      rw [← ih]
      simp
    · rw [parts_cons c b l h e]
      rw [Lib.join_cons] at ih ⊢
      rw [List.cons_append, ih]
theorem parts_no (c : UInt8) : ∀ l : List UInt8, ∀ p ∈ parts c l, Lib.indexByte p c = -1
  | [], p, hp => by
    rw [parts] at hp
    obtain rfl := List.mem_singleton.1 hp
    rfl
  | b :: l, p, hp => by
    have ih := parts_no c l
    obtain ⟨q, qs, e⟩ := parts_ne c l
    by_cases h : b = c
    · subst h
      rw [parts_eq] at hp
      rcases List.mem_cons.1 hp with rfl | hp
      · rfl
      · exact ih p hp
    · rw [parts_cons c b l h e] at hp
      rw [e] at ih
      rcases List.mem_cons.1 hp with rfl | hp
      · rw [ib_cons, if_neg h, if_pos (ih q List.mem_cons_self)]
      · exact ih p (List.mem_cons_of_mem _ hp)
theorem lenS_parts (c : UInt8) : ∀ l : List UInt8, (parts c l).length - 1 + lenS ((parts c l).map baOf) = l.length
  | [] => rfl
  | b :: l => by
    have ih := lenS_parts c l
    obtain ⟨p, ps, e⟩ := parts_ne c l
    rw [e] at ih
    by_cases h : b = c
    · subst h
      rw [parts_eq, e]
      simp only [List.map_cons, lenS, List.length_cons] at ih ⊢
      have : (baOf []).size = 0 := rfl
      omega
    · rw [parts_cons c b l h e]
      simp only [List.map_cons, lenS, List.length_cons] at ih ⊢
      have h1 : (baOf (b :: p)).size = p.length + 1 := by rw [size_list]; rfl
      have h2 : (baOf p).size = p.length := by rw [size_list]; rfl
      omega
theorem one_byte' {s : ByteArray} (h : s.size = 1) : ∃ c : UInt8, s.data.toList = [c] := List.length_eq_one_iff.mp (by rw [← size_list]; exact h)
/-- What splitting answers. -/
theorem split_join (s sep : ByteArray) (hs : s.size ≤ 10) : ∃ (L : List ByteArray) (ok : Bool), impl_SplitString.f s sep = some (L, ok) ∧ SmallT L ∧ ((sep.size = 1 ∧ ok = true ∧ joinR L sep = (s, true)) ∨ (¬ sep.size = 1 ∧ ok = false ∧ L = [])) := by
  by_cases h1 : sep.size = 1
  · obtain ⟨c, hc⟩ := one_byte' h1
    have hsl := size_list s
    have hl := parts_len c s.data.toList
    have hsm : SmallT ((parts c s.data.toList).map baOf) := by
      refine ⟨by rw [List.length_map]; omega, fun x hx => ?_⟩
      obtain ⟨p, hp, rfl⟩ := List.mem_map.1 hx
      have := parts_mem c _ p hp
      rw [size_list]
      show p.length ≤ _
      omega
    refine ⟨(parts c s.data.toList).map baOf, true, ?_, hsm, .inl ⟨h1, rfl, ?_⟩⟩
    · rw [impl_SplitString.f, if_neg (by omega), if_pos (by omega)]
      unfold strings_Split.f
      rw [if_pos ⟨by omega, by omega⟩, splitB_parts s sep c hc, Option.bind_some]
    · unfold joinR
      obtain ⟨p, ps, e⟩ := parts_ne c s.data.toList
      rw [if_neg (by rw [List.length_map, e]; simp [h1]), hc]
      show (if okJ ((parts c s.data.toList).map baOf) c = true then _ else _) = _
      rw [if_pos]
      · refine Prod.ext ?_ rfl
        apply ba_ext
        show Lib.join (((parts c s.data.toList).map baOf).map (·.data.toList)) [c] = _
        rw [List.map_map, show ((fun x : ByteArray => x.data.toList) ∘ baOf) = id from rfl, List.map_id, join_parts]
      · unfold okJ
        rw [Bool.and_eq_true]
        refine ⟨?_, decide_eq_true ?_⟩
        · rw [List.all_eq_true]
          intro x hx
          obtain ⟨q, hq, rfl⟩ := List.mem_map.1 hx
          unfold has
          have := parts_no c _ q hq
          show (!decide (0 ≤ Lib.indexByte q c)) = true
          rw [this]; rfl
        · have := lenS_parts c s.data.toList
          rw [List.length_map]
          omega
  · refine ⟨[], false, ?_, ⟨by simp, fun x hx => by cases hx⟩, .inr ⟨h1, rfl, rfl⟩⟩
    rw [impl_SplitString.f, if_neg (by omega), if_neg (by omega)]
theorem bl_asym : ∀ x y : List UInt8, Op.bytesLess x y = true → Op.bytesLess y x = false
  | [], [], h => by simp [Op.bytesLess] at h
  | [], v :: vs, h => rfl
  | u :: us, [], h => by simp [Op.bytesLess] at h
  | u :: us, v :: vs, h => by
    have ih := bl_asym us vs
    simp only [Op.bytesLess, Bool.or_eq_true, decide_eq_true_eq, Bool.and_eq_true, beq_iff_eq] at h
    simp only [Op.bytesLess, Bool.or_eq_false_iff, decide_eq_false_iff_not, Bool.and_eq_false_iff, beq_eq_false_iff_ne]
    rcases h with h | ⟨h1, h2⟩
    · have h3 := UInt8.lt_iff_toNat_lt.mp h
      refine ⟨fun q => ?_, .inl (fun q => ?_)⟩
      · have h4 := UInt8.lt_iff_toNat_lt.mp q
        omega
      · subst q; omega
    · subst h1
      refine ⟨fun q => ?_, .inr (ih h2)⟩
      have h4 := UInt8.lt_iff_toNat_lt.mp q
      omega
theorem less_asym (a b : ByteArray) (h : Op.bytesLess a.toList b.toList = true) : Op.bytesLess b.toList a.toList = false := bl_asym _ _ h
theorem FnSplitJoin_ok : FnSplitJoinPure := by
  intro l hl
  have hc : IsCode l := fun x hx => by
    have := hl.2 x hx
    simp only [Lit.wf, Bool.and_eq_true, decide_eq_true_eq] at this
    have h1 : IntKind.u8.min = 0 := rfl
    have h2 : IntKind.u8.max = 255 := rfl
    omega
  by_cases hb : (l.length : Int) > 65536
  · exact ⟨0, by rw [laws_FnSplitJoin.f, laws_vBig.f, decide_eq_true hb, Option.bind_some, if_pos rfl]⟩
  · obtain ⟨s, sep, e1, hs⟩ := drawSplit_ok hc
    obtain ⟨L, ok, e2, hL, hcase⟩ := split_join s sep hs
    obtain ⟨ks, mark, ⟨K1, e3⟩, hk1, hk2⟩ := drawJoin_ok hc
    have hsk : SmallT ks := ⟨by omega, fun x hx => by have := hk2 x hx; omega⟩
    obtain ⟨K2, e4⟩ := joinR_impl ks mark hsk
    obtain ⟨K3, e5⟩ := joinR_spec ks mark hsk
    obtain ⟨a, b, e6⟩ := drawLess_ok hc
    obtain ⟨K4, e7⟩ := joinR_impl L sep hL
    obtain ⟨K, hK⟩ : ∃ K, K = K1 + K2 + K3 + K4 := ⟨_, rfl⟩
    have e3 := e3 (K + 1) (by omega)
    have e4 := e4 (K + 1) (by omega)
    have e5 := e5 (K + 1) (by omega)
    have e7 := e7 K (by omega)
    dsimp only at e3 e4 e5 e7
    have hj : laws_FnSplitJoin.j0 (K + 1) s sep L ok false = some true := by
      rw [laws_FnSplitJoin.j0, if_neg (by decide)]
      rcases hcase with ⟨g1, g2, g3⟩ | ⟨g1, g2, g3⟩
      · rw [if_pos (by omega), e7, g3, Option.bind_some, g2, if_pos rfl, if_pos rfl]
        simp
      · subst g2; subst g3
        rw [if_neg (by omega), if_neg (by decide)]
        rfl
    refine ⟨K + 1, ?_⟩
    have hbb : ∀ q : Bool, ¬ (q != q) = true := fun q => by cases q <;> decide
    rw [laws_FnSplitJoin.f, laws_vBig.f, decide_eq_false hb, Option.bind_some, if_neg (by decide), e1, Option.bind_some, e2, Option.bind_some, e3, Option.bind_some, e4, Option.bind_some, e5, Option.bind_some, e6, Option.bind_some, if_pos rfl, if_neg (hbb _)]
    rw [impl_LessString.f, Option.bind_some, spec_LessString.f, Option.bind_some, if_neg (hbb _), Option.bind_some]
    by_cases hlt : Op.bytesLess a.toList b.toList = true
    · rw [if_pos hlt, impl_LessString.f, Option.bind_some, less_asym a b hlt]
      exact hj
    · rw [if_neg hlt]
      exact hj
end Go.Proofs.YtlcikalgphafaaaDoor.P
