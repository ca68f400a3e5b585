/- Closed facts of the row of FnExtremal. -/
import Derived.Test.YtgjomoedgmofbaaOp
import Derived.Test.YtgjomoedgmofbaaRows
namespace Go.Proofs.Ytgjomoedgmofbaa
open Go.ChangeShapes Go.WideShapes Go.ChangeAt Go.RowKit Go.Zz

theorem closed_FnExtremal : joinedFacts Try.prog 3 Try.f3 Rows.fnExtremalSpec Rows.fnExtremalRow = true := by kernel_rfl
end Go.Proofs.Ytgjomoedgmofbaa
