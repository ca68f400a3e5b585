/- Closed facts of the row of FnClaims. -/
import Derived.Test.YtdlbbpeahicakaaGreatOp
import Derived.Test.YtdlbbpeahicakaaGreatRows
namespace Go.Proofs.YtdlbbpeahicakaaGreat
open Go.ChangeShapes Go.WideShapes Go.ChangeAt Go.RowKit Go.Zz

theorem closed_FnClaims : joinedFacts Tryz.prog 4 Tryz.f4 Rows.fnClaimsSpec Rows.fnClaimsRow = true := by kernel_rfl
end Go.Proofs.YtdlbbpeahicakaaGreat

