/- Closed facts of the row of FnConsolePrefix. -/
import Derived.Test.YtjhoafjeopcheaaGreatOp
import Derived.Test.YtjhoafjeopcheaaGreatRows
namespace Go.Proofs.YtjhoafjeopcheaaGreat
open Go.ChangeShapes Go.WideShapes Go.ChangeAt Go.RowKit Go.Zz

theorem closed_FnConsolePrefix : joinedFacts Tryz.prog 4 Tryz.f4 Rows.fnConsolePrefixSpec Rows.fnConsolePrefixRow = true := by kernel_rfl
end Go.Proofs.YtjhoafjeopcheaaGreat

