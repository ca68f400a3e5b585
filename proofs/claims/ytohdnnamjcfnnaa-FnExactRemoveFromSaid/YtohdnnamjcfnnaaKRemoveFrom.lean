/- Closed facts of the row of RemoveFrom. -/
import Derived.Test.YtohdnnamjcfnnaaOp
import Derived.Test.YtohdnnamjcfnnaaRows
namespace Go.Proofs.Ytohdnnamjcfnnaa
open Go.ChangeShapes Go.WideShapes Go.ChangeAt Go.RowKit Go.Zz

theorem closed_FnExactRemoveFrom : joinedFacts Try.prog 3 Try.f3 Rows.fnExactRemoveFromSpec Rows.fnExactRemoveFromRow = true := by kernel_rfl
end Go.Proofs.Ytohdnnamjcfnnaa
