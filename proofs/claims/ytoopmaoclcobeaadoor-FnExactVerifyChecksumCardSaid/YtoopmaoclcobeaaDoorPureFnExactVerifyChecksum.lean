/- The law FnExactVerifyChecksum answers true for every input. No condition beyond the row's own. -/
import Derived.Test.YtoopmaoclcobeaaDoorStFnExactVerifyChecksum
import Derived.Test.YtoopmaoclcobeaaDoorSealP
import Derived.Test.YtoopmaoclcobeaaDoorSplitP
namespace Go.Proofs.YtoopmaoclcobeaaDoor.P
open Go.RowKit Go.Proofs.YtoopmaoclcobeaaDoorW.PrintWords Go.Proofs.YtoopmaoclcobeaaDoorW.PrintLast Go.Proofs.YtoopmaoclcobeaaDoorW.PrintMore
set_option linter.unusedVariables false
set_option linter.unusedSimpArgs false
theorem FnExactVerifyChecksum_ok : FnExactVerifyChecksumPure := by
  intro x w0
  by_cases h : (x.size : Int) > 1048576
  · exact ⟨0, by rw [laws_FnExactVerifyChecksum.f, if_pos h]⟩
  · obtain ⟨ps, hp⟩ := cut_parts x.data.toList [35] 35 rfl
    have hh := cut_has x.data.toList 35
    obtain ⟨t, ht⟩ : ∃ t : ByteArray, t = baOf (Lib.cut x.data.toList [35]).1 := ⟨_, rfl⟩
    have htz : t.size ≤ x.size := by
      have := parts_mem 35 x.data.toList (Lib.cut x.data.toList [35]).1 (by rw [hp]; exact List.mem_cons_self)
      rw [ht, size_list, size_list x]
      exact this
    have hnot : has t 35 = false := by
      unfold has
      rw [ht]
      show decide (0 ≤ Lib.indexByte (Lib.cut x.data.toList [35]).1 35) = false
      rw [hh]; rfl
    obtain ⟨r, hr, hr2, h0, h1⟩ := sum_ev t (by omega)
    obtain ⟨K1, e1⟩ := seal_ev t (by omega) hr h0 h1
    obtain ⟨K2, e2⟩ := app_impl t (by omega) hr2 h0 h1
    obtain ⟨K3, e3⟩ := split_ev x 35 (by omega)
    have hz := sealR_size t r h0 h1
    have e1 := e1 (K1 + K2 + K3) (by omega)
    have e2 := e2 (K1 + K2 + K3) (by omega)
    have e3 := e3 (K1 + K2 + K3) (by omega)
    dsimp only at e1 e2 e3
    have e3' : spec_l1Split.f (K1 + K2 + K3) x 35 = some ((parts 35 x.data.toList).map baOf) := e3
    rw [hp, List.map_cons, ← ht] at e3'
    have ec : strings_Cut.f x (⟨#[35]⟩ : ByteArray) = some (t, ⟨(Lib.cut x.data.toList [35]).2.1.toArray⟩, (Lib.cut x.data.toList [35]).2.2) := by
      unfold strings_Cut.f
      rw [if_pos (by omega), ht]; rfl
    refine ⟨K1 + K2 + K3, ?_⟩
    have ev : impl_VerifyChecksum.f (K1 + K2 + K3) x = some (if sealR t r = x ∧ x.size ≤ 4000 then (t, true) else (⟨#[]⟩, false)) := by
      rw [impl_VerifyChecksum.f, ec, Option.bind_some, e2, Option.bind_some]
      unfold apR
      by_cases h4 : 4000 < t.size
      · rw [if_pos h4, if_neg (by simp), if_neg (fun q => by omega)]
      · rw [if_neg h4, if_neg (show ¬ has t 35 = true from by rw [hnot]; exact Bool.false_ne_true)]
        by_cases h6 : 4000 < (sealR t r).size
        · rw [if_pos h6, if_neg (by simp), if_neg (fun q => by rw [q.1] at h6; omega)]
        · rw [if_neg h6, if_pos rfl]
          by_cases h7 : sealR t r = x
          · rw [if_pos (tl_inj.mpr h7), if_pos ⟨h7, by rw [h7] at h6; omega⟩]
          · rw [if_neg (fun q => h7 (tl_inj.mp q)), if_neg (fun q => h7 q.1)]
    have es : spec_VerifyChecksum.f (K1 + K2 + K3) x = some (if sealR t r = x ∧ x.size ≤ 4000 then (t, true) else (⟨#[]⟩, false)) := by
      rw [spec_VerifyChecksum.f]
      by_cases h4 : (x.size : Int) > 4000
      · rw [if_pos h4, if_neg (fun q => by omega)]
      · rw [if_neg h4, e3', Option.bind_some, if_pos (by simp only [List.length_cons]; omega), show rdOf ByteArray.empty (t :: ps.map baOf) 0 = t from rfl, e1, Option.bind_some]
        by_cases h7 : sealR t r = x
        · rw [if_pos (tl_inj.mpr h7), if_pos ⟨h7, by omega⟩]
        · rw [if_neg (fun q => h7 (tl_inj.mp q)), if_neg (fun q => h7 q.1)]
    rw [laws_FnExactVerifyChecksum.f, if_neg h, es, Option.bind_some, ev, Option.bind_some, if_pos rfl]
    simp
end Go.Proofs.YtoopmaoclcobeaaDoor.P
