/- What the listed condition gives of strconv.ErrSyntax. -/
import Derived.Test.YtlcikalgphafaaaDoorWrap
import Derived.Test.YtlcikalgphafaaaDoorParseI
import Derived.Stop.LaidErr
namespace Go.Proofs.YtlcikalgphafaaaDoor.P
open Go.RowKit Go.Proofs.YtlcikalgphafaaaDoorW.PrintWords Go.Proofs.YtlcikalgphafaaaDoorW.PrintLast Go.Proofs.YtlcikalgphafaaaDoorW.PrintMore
theorem star_err : ("*" ++ "errors.errorString" : String) = "*errors.errorString" := by decide
theorem row_err (u : TypeId) (h : Tryd.prog.typeName? 3 u = some "*errors.errorString") : u = 154 :=
  typeName_ptr_named (nm := "errors.errorString") (by rw [star_err]; kernel_rfl) (by kernel_rfl) (by decide) u (by rw [star_err]; exact h)
theorem tabC_of {r : List (String × DataW Unit)} {W : World} (h : laidMet Tryd.prog (("strconv.ErrSyntax", Rows.laid_strconv_ErrSyntax) :: r) W) : TabC W := by
  unfold Rows.laid_strconv_ErrSyntax at h
  obtain ⟨a, s, hv, _⟩ := laid_sentinel (g := 0) (ti := 79) (tp := 154) (te := 156) (ts := 9) h (by kernel_rfl) (by kernel_rfl) Tryd.underlying79 row_err Tryd.underlying154 Tryd.underlying156 rfl rfl Tryd.underlying9 (by kernel_rfl) (by kernel_rfl)
  exact ⟨_, _, hv⟩
end Go.Proofs.YtlcikalgphafaaaDoor.P
