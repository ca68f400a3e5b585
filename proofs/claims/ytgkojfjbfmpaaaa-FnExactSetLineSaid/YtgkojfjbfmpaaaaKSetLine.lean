/- Closed facts of the row of SetLine. -/
import Derived.Test.YtgkojfjbfmpaaaaOp
import Derived.Test.YtgkojfjbfmpaaaaRows
namespace Go.Proofs.Ytgkojfjbfmpaaaa
open Go.ChangeShapes Go.WideShapes Go.ChangeAt Go.RowKit Go.Zz

theorem closed_FnExactSetLine : joinedFacts Try.prog 5 Try.f5 Rows.fnExactSetLineSpec Rows.fnExactSetLineRow = true := by kernel_rfl
end Go.Proofs.Ytgkojfjbfmpaaaa
