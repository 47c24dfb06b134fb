/- Plain lemmas: the numbers of a window that lies on a memory are small. -/
import Derived.Test.YtaoffejflichjaaWin
import Derived.Test.YtaoffejflichjaaMem
namespace Go.Proofs.Ytaoffejflichjaa.P
open Go.RowKit Go.Proofs.YtaoffejflichjaaW.PrintWords Go.Proofs.YtaoffejflichjaaW.PrintLast Go.Proofs.YtaoffejflichjaaW.PrintMore
set_option linter.unusedVariables false
/-- A window's numbers are small. -/
def Sm (s l : Int) : Prop := -1000000 ≤ s ∧ s ≤ 1000000 ∧ -1000000 ≤ l ∧ l ≤ 1000000
theorem win_sm {m : List (List Int)} {a s l c : Int} (hok : memOk m = true) (h : winOn m a s l c = true) : Sm s l ∧ Sm s c ∧ 0 ≤ s ∧ 0 ≤ l ∧ l ≤ c ∧ c ≤ 64 ∧ (0 ≤ a ∧ a < m.length) ∧ s + c ≤ (m.getD a.toNat []).length ∧ (m.getD a.toNat []).length ≤ 64 := by
  rw [winOn_iff] at h
  have hlt : a.toNat < m.length := by omega
  have := memOk_each hok _ (getD_mem m [] a.toNat hlt)
  unfold Sm
  omega
theorem wfu8 {x : Int} (h : (Lit.int .u8 x).wf = true) : 0 ≤ x ∧ x < 256 := by
  simp only [Lit.wf, Bool.and_eq_true, decide_eq_true_eq] at h
  have h1 : IntKind.u8.min = 0 := rfl
  have h2 : IntKind.u8.max = 255 := rfl
  omega
/-- The bytes that a window sees. -/
def seen (m : List (List Int)) (a s l : Int) : List Int := ((m.getD a.toNat []).drop s.toNat).take l.toNat
theorem seen_len {m : List (List Int)} {a s l c : Int} (hok : memOk m = true) (h : winOn m a s l c = true) : ((seen m a s l).length : Int) = l := by
  obtain ⟨_, _, h0, h1, h2, h3, h4, h5, h6⟩ := win_sm hok h
  unfold seen
  rw [List.length_take, List.length_drop]
  omega
theorem seen_mem {m : List (List Int)} {a s l : Int} {x : Int} (h : x ∈ seen m a s l) : ∃ r ∈ m, x ∈ r := by
  unfold seen at h
  have h1 := List.mem_of_mem_drop (List.mem_of_mem_take h)
  by_cases ha : a.toNat < m.length
  · exact ⟨_, getD_mem m [] a.toNat ha, h1⟩
  · rw [List.getD_eq_getElem?_getD, List.getElem?_eq_none (by omega)] at h1
    cases h1
theorem seen_rd {m : List (List Int)} {a s l i : Int} (h0 : 0 ≤ i) (h1 : i < l) (hs : 0 ≤ s) : rd (seen m a s l) i = rd (m.getD a.toNat []) (s + i) := by
  unfold rd seen
  generalize m.getD a.toNat [] = L
  rw [List.getD_eq_getElem?_getD, List.getD_eq_getElem?_getD, List.getElem?_take, if_pos (by omega), List.getElem?_drop, show s.toNat + i.toNat = (s + i).toNat by omega]
end Go.Proofs.Ytaoffejflichjaa.P
