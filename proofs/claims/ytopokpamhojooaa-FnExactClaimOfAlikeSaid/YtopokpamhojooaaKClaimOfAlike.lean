/- Closed facts of the row of ClaimOfAlike. -/
import Derived.Test.YtopokpamhojooaaOp
import Derived.Test.YtopokpamhojooaaRows
namespace Go.Proofs.Ytopokpamhojooaa
open Go.ChangeShapes Go.WideShapes Go.ChangeAt Go.RowKit Go.Zz

theorem closed_FnExactClaimOfAlike : joinedFacts Try.prog 4 Try.f4 Rows.fnExactClaimOfAlikeSpec Rows.fnExactClaimOfAlikeRow = true := by kernel_rfl
end Go.Proofs.Ytopokpamhojooaa
