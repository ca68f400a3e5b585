/- Closed facts of the row of FnEdits. -/
import Derived.Test.YtgkojfjbfmpaaaaOp
import Derived.Test.YtgkojfjbfmpaaaaRows
namespace Go.Proofs.Ytgkojfjbfmpaaaa
open Go.ChangeShapes Go.WideShapes Go.ChangeAt Go.RowKit Go.Zz

theorem closed_FnEdits : joinedFacts Try.prog 3 Try.f3 Rows.fnEditsSpec Rows.fnEditsRow = true := by kernel_rfl
end Go.Proofs.Ytgkojfjbfmpaaaa
