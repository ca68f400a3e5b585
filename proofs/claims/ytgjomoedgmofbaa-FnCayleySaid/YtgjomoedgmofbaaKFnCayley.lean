/- Closed facts of the row of FnCayley. -/
import Derived.Test.YtgjomoedgmofbaaOp
import Derived.Test.YtgjomoedgmofbaaRows
namespace Go.Proofs.Ytgjomoedgmofbaa
open Go.ChangeShapes Go.WideShapes Go.ChangeAt Go.RowKit Go.Zz

theorem closed_FnCayley : joinedFacts Try.prog 7 Try.f7 Rows.fnCayleySpec Rows.fnCayleyRow = true := by kernel_rfl
end Go.Proofs.Ytgjomoedgmofbaa
