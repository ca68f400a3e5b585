/- Closed facts of the row of SequenceLine. -/
import Derived.Test.YtdlbbpeahicakaaGreatOp
import Derived.Test.YtdlbbpeahicakaaGreatRows
namespace Go.Proofs.YtdlbbpeahicakaaGreat
open Go.ChangeShapes Go.WideShapes Go.ChangeAt Go.RowKit Go.Zz

theorem closed_FnExactSequenceLine : joinedFacts Tryz.prog 3 Tryz.f3 Rows.fnExactSequenceLineSpec Rows.fnExactSequenceLineRow = true := by kernel_rfl
end Go.Proofs.YtdlbbpeahicakaaGreat
