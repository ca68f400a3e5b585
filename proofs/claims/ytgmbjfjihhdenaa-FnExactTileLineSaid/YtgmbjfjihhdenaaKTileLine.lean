/- Closed facts of the row of TileLine. -/
import Derived.Test.YtgmbjfjihhdenaaOp
import Derived.Test.YtgmbjfjihhdenaaRows
namespace Go.Proofs.Ytgmbjfjihhdenaa
open Go.ChangeShapes Go.WideShapes Go.ChangeAt Go.RowKit Go.Zz

theorem closed_FnExactTileLine : joinedFacts Try.prog 5 Try.f5 Rows.fnExactTileLineSpec Rows.fnExactTileLineRow = true := by kernel_rfl
end Go.Proofs.Ytgmbjfjihhdenaa
