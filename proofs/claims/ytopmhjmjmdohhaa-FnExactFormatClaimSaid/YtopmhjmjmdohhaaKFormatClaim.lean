/- Closed facts of the row of FormatClaim. -/
import Derived.Test.YtopmhjmjmdohhaaOp
import Derived.Test.YtopmhjmjmdohhaaRows
namespace Go.Proofs.Ytopmhjmjmdohhaa
open Go.ChangeShapes Go.WideShapes Go.ChangeAt Go.RowKit Go.Zz

theorem closed_FnExactFormatClaim : joinedFacts Try.prog 8 Try.f8 Rows.fnExactFormatClaimSpec Rows.fnExactFormatClaimRow = true := by kernel_rfl
end Go.Proofs.Ytopmhjmjmdohhaa
