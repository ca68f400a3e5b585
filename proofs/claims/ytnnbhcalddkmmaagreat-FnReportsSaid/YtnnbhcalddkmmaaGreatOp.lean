/- How the arguments of a law are read. -/
import Derived.Test.YtnnbhcalddkmmaaGreatGr2
import Derived.Lib.SmallJoins
import Derived.SizedLaws
import Derived.Carry
set_option linter.unusedSimpArgs false
set_option linter.unusedVariables false
set_option linter.unnecessarySimpa false
namespace Go.Zz
open Go.ChangeShapes Go.WideShapes Go.ChangeAt Go.RowKit Go.Joins Go.Deep
section
variable {H:Type} {enc:TypeId × Value->H} {P:Program} {w:World} {held:Bool}
theorem weights_arg{ts:List TypeId}{ds:List (DataW H)}(h:(DataW.weightsEach P ts ds).all (·<=reachBytes)=true){j:Nat}{t:TypeId}{d:DataW H}(ht:ts[j]?=some t)(hd:ds[j]?=some d):∀k∈d.weights P t,k<=reachBytes:=by
 intro k hk;have:=List.all_eq_true.1 h _ (DataW.weights_mem_each ht hd k hk);simpa using this
end
end Go.Zz
