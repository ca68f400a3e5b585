/- Closed facts of the row of FnReports. -/
import Derived.Test.YtnnbhcalddkmmaaGreatOp
import Derived.Test.YtnnbhcalddkmmaaGreatRows
namespace Go.Proofs.YtnnbhcalddkmmaaGreat
open Go.ChangeShapes Go.WideShapes Go.ChangeAt Go.RowKit Go.Zz

theorem closed_FnReports : joinedFacts Tryz.prog 4 Tryz.f4 Rows.fnReportsSpec Rows.fnReportsRow = true := by kernel_rfl
end Go.Proofs.YtnnbhcalddkmmaaGreat

