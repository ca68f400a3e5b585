/- Closed facts of the row of StructureOf. -/
import Derived.Test.YtohdnnamjcfnnaaOp
import Derived.Test.YtohdnnamjcfnnaaRows
namespace Go.Proofs.Ytohdnnamjcfnnaa
open Go.ChangeShapes Go.WideShapes Go.ChangeAt Go.RowKit Go.Zz

theorem closed_FnExactStructureOf : joinedFacts Try.prog 13 Try.f13 Rows.fnExactStructureOfSpec Rows.fnExactStructureOfRow = true := by kernel_rfl
end Go.Proofs.Ytohdnnamjcfnnaa
