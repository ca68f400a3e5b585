/- Closed facts of the row of LargestClique. -/
import Derived.Test.YtopmhjmjmdohhaaOp
import Derived.Test.YtopmhjmjmdohhaaRows
namespace Go.Proofs.Ytopmhjmjmdohhaa
open Go.ChangeShapes Go.WideShapes Go.ChangeAt Go.RowKit Go.Zz

theorem closed_FnExactLargestClique : joinedFacts Try.prog 4 Try.f4 Rows.fnExactLargestCliqueSpec Rows.fnExactLargestCliqueRow = true := by kernel_rfl
end Go.Proofs.Ytopmhjmjmdohhaa
