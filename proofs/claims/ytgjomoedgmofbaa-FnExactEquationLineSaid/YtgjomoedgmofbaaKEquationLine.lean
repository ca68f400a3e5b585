/- Closed facts of the row of EquationLine. -/
import Derived.Test.YtgjomoedgmofbaaOp
import Derived.Test.YtgjomoedgmofbaaRows
namespace Go.Proofs.Ytgjomoedgmofbaa
open Go.ChangeShapes Go.WideShapes Go.ChangeAt Go.RowKit Go.Zz

theorem closed_FnExactEquationLine : joinedFacts Try.prog 4 Try.f4 Rows.fnExactEquationLineSpec Rows.fnExactEquationLineRow = true := by kernel_rfl
end Go.Proofs.Ytgjomoedgmofbaa
