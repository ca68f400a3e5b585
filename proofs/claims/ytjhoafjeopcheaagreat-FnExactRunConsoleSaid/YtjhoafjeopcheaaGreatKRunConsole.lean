/- Closed facts of the row of RunConsole. -/
import Derived.Test.YtjhoafjeopcheaaGreatOp
import Derived.Test.YtjhoafjeopcheaaGreatRows
namespace Go.Proofs.YtjhoafjeopcheaaGreat
open Go.ChangeShapes Go.WideShapes Go.ChangeAt Go.RowKit Go.Zz

theorem closed_FnExactRunConsole : joinedFacts Tryz.prog 3 Tryz.f3 Rows.fnExactRunConsoleSpec Rows.fnExactRunConsoleRow = true := by kernel_rfl
end Go.Proofs.YtjhoafjeopcheaaGreat

