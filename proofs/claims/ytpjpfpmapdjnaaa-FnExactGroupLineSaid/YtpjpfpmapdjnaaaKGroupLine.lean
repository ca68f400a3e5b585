/- Closed facts of the row of GroupLine. -/
import Derived.Test.YtpjpfpmapdjnaaaOp
import Derived.Test.YtpjpfpmapdjnaaaRows
namespace Go.Proofs.Ytpjpfpmapdjnaaa
open Go.ChangeShapes Go.WideShapes Go.ChangeAt Go.RowKit Go.Zz

theorem closed_FnExactGroupLine : joinedFacts Try.prog 3 Try.f3 Rows.fnExactGroupLineSpec Rows.fnExactGroupLineRow = true := by kernel_rfl
end Go.Proofs.Ytpjpfpmapdjnaaa
