/- Closed facts of the row of CheckClaim. -/
import Derived.Test.YtopokpamhojooaaOp
import Derived.Test.YtopokpamhojooaaRows
namespace Go.Proofs.Ytopokpamhojooaa
open Go.ChangeShapes Go.WideShapes Go.ChangeAt Go.RowKit Go.Zz

theorem closed_FnExactCheckClaim : joinedFacts Try.prog 6 Try.f6 Rows.fnExactCheckClaimSpec Rows.fnExactCheckClaimRow = true := by kernel_rfl
end Go.Proofs.Ytopokpamhojooaa
