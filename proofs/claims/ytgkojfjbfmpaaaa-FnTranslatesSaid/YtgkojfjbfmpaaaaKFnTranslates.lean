/- Closed facts of the row of FnTranslates. -/
import Derived.Test.YtgkojfjbfmpaaaaOp
import Derived.Test.YtgkojfjbfmpaaaaRows
namespace Go.Proofs.Ytgkojfjbfmpaaaa
open Go.ChangeShapes Go.WideShapes Go.ChangeAt Go.RowKit Go.Zz

theorem closed_FnTranslates : joinedFacts Try.prog 4 Try.f4 Rows.fnTranslatesSpec Rows.fnTranslatesRow = true := by kernel_rfl
end Go.Proofs.Ytgkojfjbfmpaaaa
