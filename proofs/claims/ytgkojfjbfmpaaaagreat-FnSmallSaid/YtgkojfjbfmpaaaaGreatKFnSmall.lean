/- Closed facts of the row of FnSmall. -/
import Derived.Test.YtgkojfjbfmpaaaaGreatOp
import Derived.Test.YtgkojfjbfmpaaaaGreatRows
namespace Go.Proofs.YtgkojfjbfmpaaaaGreat
open Go.ChangeShapes Go.WideShapes Go.ChangeAt Go.RowKit Go.Zz

theorem closed_FnSmall : joinedFacts Tryz.prog 3 Tryz.f3 Rows.fnSmallSpec Rows.fnSmallRow = true := by kernel_rfl
end Go.Proofs.YtgkojfjbfmpaaaaGreat
