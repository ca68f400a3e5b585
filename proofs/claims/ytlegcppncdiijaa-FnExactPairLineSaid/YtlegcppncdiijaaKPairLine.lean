/- Closed facts of the row of PairLine. -/
import Derived.Test.YtlegcppncdiijaaOp
import Derived.Test.YtlegcppncdiijaaRows
namespace Go.Proofs.Ytlegcppncdiijaa
open Go.ChangeShapes Go.WideShapes Go.ChangeAt Go.RowKit Go.Zz

theorem closed_FnExactPairLine : joinedFacts Try.prog 3 Try.f3 Rows.fnExactPairLineSpec Rows.fnExactPairLineRow = true := by kernel_rfl
end Go.Proofs.Ytlegcppncdiijaa
