/- Closed facts of the row of FnConsoleResults. -/
import Derived.Test.YtnnbhcalddkmmaaGreatOp
import Derived.Test.YtnnbhcalddkmmaaGreatRows
namespace Go.Proofs.YtnnbhcalddkmmaaGreat
open Go.ChangeShapes Go.WideShapes Go.ChangeAt Go.RowKit Go.Zz

theorem closed_FnConsoleResults : joinedFacts Tryz.prog 3 Tryz.f3 Rows.fnConsoleResultsSpec Rows.fnConsoleResultsRow = true := by kernel_rfl
end Go.Proofs.YtnnbhcalddkmmaaGreat

