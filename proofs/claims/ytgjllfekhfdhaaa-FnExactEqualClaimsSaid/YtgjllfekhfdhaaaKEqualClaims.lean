/- Closed facts of the row of EqualClaims. -/
import Derived.Test.YtgjllfekhfdhaaaOp
import Derived.Test.YtgjllfekhfdhaaaRows
namespace Go.Proofs.Ytgjllfekhfdhaaa
open Go.ChangeShapes Go.WideShapes Go.ChangeAt Go.RowKit Go.Zz

theorem closed_FnExactEqualClaims : joinedFacts Try.prog 3 Try.f3 Rows.fnExactEqualClaimsSpec Rows.fnExactEqualClaimsRow = true := by kernel_rfl
end Go.Proofs.Ytgjllfekhfdhaaa
