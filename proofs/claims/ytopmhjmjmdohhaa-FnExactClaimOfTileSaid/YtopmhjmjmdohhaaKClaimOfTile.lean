/- Closed facts of the row of ClaimOfTile. -/
import Derived.Test.YtopmhjmjmdohhaaOp
import Derived.Test.YtopmhjmjmdohhaaRows
namespace Go.Proofs.Ytopmhjmjmdohhaa
open Go.ChangeShapes Go.WideShapes Go.ChangeAt Go.RowKit Go.Zz

theorem closed_FnExactClaimOfTile : joinedFacts Try.prog 6 Try.f6 Rows.fnExactClaimOfTileSpec Rows.fnExactClaimOfTileRow = true := by kernel_rfl
end Go.Proofs.Ytopmhjmjmdohhaa
