/- Closed facts of the row of ClaimOfColors. -/
import Derived.Test.YtopmhjmjmdohhaaOp
import Derived.Test.YtopmhjmjmdohhaaRows
namespace Go.Proofs.Ytopmhjmjmdohhaa
open Go.ChangeShapes Go.WideShapes Go.ChangeAt Go.RowKit Go.Zz

theorem closed_FnExactClaimOfColors : joinedFacts Try.prog 3 Try.f3 Rows.fnExactClaimOfColorsSpec Rows.fnExactClaimOfColorsRow = true := by kernel_rfl
end Go.Proofs.Ytopmhjmjmdohhaa
