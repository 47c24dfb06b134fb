/- Plain lemmas on joined texts: what stands behind the first one, sizes. No program, no memory. -/
import Derived.Test.YtlcikalgphafaaaDoorStrQ
import Derived.Test.YtlcikalgphafaaaDoorStr
namespace Go.Proofs.YtlcikalgphafaaaDoor.P
open Go.RowKit Go.Proofs.YtlcikalgphafaaaDoorW.PrintWords Go.Proofs.YtlcikalgphafaaaDoorW.PrintLast Go.Proofs.YtlcikalgphafaaaDoorW.PrintMore
set_option linter.unusedVariables false
set_option linter.unusedSimpArgs false
/-- What stands behind the first text of a join. -/
def jt (c : UInt8) : List ByteArray → List UInt8
  | [] => []
  | x :: xs => c :: (x.data.toList ++ jt c xs)
def lenS : List ByteArray → Nat
  | [] => 0
  | x :: xs => x.size + lenS xs
theorem jt_len (c : UInt8) : ∀ l : List ByteArray, (jt c l).length = l.length + lenS l
  | [] => rfl
  | x :: xs => by
    have ih := jt_len c xs
    have := size_list x
    simp only [jt, lenS, List.length_cons, List.length_append]
    omega
theorem join_jt (c : UInt8) (x : ByteArray) (xs : List ByteArray) : Lib.join ((x :: xs).map (·.data.toList)) [c] = x.data.toList ++ jt c xs := by
  rw [List.map_cons, Lib.join_cons]
  congr 1
  induction xs with
  | nil => rfl
  | cons y ys ih =>
    simp only [Lib.joinTail, List.map_cons, List.flatten_cons] at ih ⊢
    rw [ih]
    simp [jt]
theorem lenS_le : ∀ (l : List ByteArray), (∀ x ∈ l, x.size ≤ 1048576) → lenS l ≤ l.length * 1048576
  | [], _ => by simp [lenS]
  | x :: xs, h => by
    have ih := lenS_le xs (fun y hy => h y (List.mem_cons_of_mem _ hy))
    have := h x List.mem_cons_self
    simp only [lenS, List.length_cons]
    omega
theorem lenS_mem {l : List ByteArray} {i : Nat} (h : i < l.length) : lenS (l.drop i) = l[i].size + lenS (l.drop (i + 1)) := by
  rw [List.drop_eq_getElem_cons h]; rfl
theorem app_list (a b : ByteArray) : (a ++ b).data.toList = a.data.toList ++ b.data.toList := by simp
theorem app_size (a b : ByteArray) : (a ++ b).size = a.size + b.size := by simp
end Go.Proofs.YtlcikalgphafaaaDoor.P
