/- What the listed condition gives of strconv.ErrSyntax. -/
import Derived.Test.YtoopmaoclcobeaaDoorWrap
import Derived.Test.YtoopmaoclcobeaaDoorParseI
import Derived.Stop.LaidErr
namespace Go.Proofs.YtoopmaoclcobeaaDoor.P
open Go.RowKit Go.Proofs.YtoopmaoclcobeaaDoorW.PrintWords Go.Proofs.YtoopmaoclcobeaaDoorW.PrintLast Go.Proofs.YtoopmaoclcobeaaDoorW.PrintMore
theorem star_err : ("*" ++ "errors.errorString" : String) = "*errors.errorString" := by decide
theorem row_err (u : TypeId) (h : Tryd.prog.typeName? 3 u = some "*errors.errorString") : u = 101 :=
  typeName_ptr_named (nm := "errors.errorString") (by rw [star_err]; kernel_rfl) (by kernel_rfl) (by decide) u (by rw [star_err]; exact h)
theorem tabC_of {r : List (String × DataW Unit)} {W : World} (h : laidMet Tryd.prog (("strconv.ErrSyntax", Rows.laid_strconv_ErrSyntax) :: r) W) : TabC W := by
  unfold Rows.laid_strconv_ErrSyntax at h
  obtain ⟨a, s, hv, _⟩ := laid_sentinel (g := 1) (ti := 53) (tp := 101) (te := 103) (ts := 9) h (by kernel_rfl) (by kernel_rfl) Tryd.underlying53 row_err Tryd.underlying101 Tryd.underlying103 rfl rfl Tryd.underlying9 (by kernel_rfl) (by kernel_rfl)
  exact ⟨_, _, hv⟩
end Go.Proofs.YtoopmaoclcobeaaDoor.P
