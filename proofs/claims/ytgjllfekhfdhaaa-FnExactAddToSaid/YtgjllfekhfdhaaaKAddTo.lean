/- Closed facts of the row of AddTo. -/
import Derived.Test.YtgjllfekhfdhaaaOp
import Derived.Test.YtgjllfekhfdhaaaRows
namespace Go.Proofs.Ytgjllfekhfdhaaa
open Go.ChangeShapes Go.WideShapes Go.ChangeAt Go.RowKit Go.Zz

theorem closed_FnExactAddTo : joinedFacts Try.prog 7 Try.f7 Rows.fnExactAddToSpec Rows.fnExactAddToRow = true := by kernel_rfl
end Go.Proofs.Ytgjllfekhfdhaaa
