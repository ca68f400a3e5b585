/- Closed facts of the row of ExtremalLine. -/
import Derived.Test.YtgmbjfjihhdenaaOp
import Derived.Test.YtgmbjfjihhdenaaRows
namespace Go.Proofs.Ytgmbjfjihhdenaa
open Go.ChangeShapes Go.WideShapes Go.ChangeAt Go.RowKit Go.Zz

theorem closed_FnExactExtremalLine : joinedFacts Try.prog 4 Try.f4 Rows.fnExactExtremalLineSpec Rows.fnExactExtremalLineRow = true := by kernel_rfl
end Go.Proofs.Ytgmbjfjihhdenaa
