/- How the arguments of a law are read. -/
import Derived.Test.YtjhoafjeopcheaaGreatGr2
import Derived.Lib.SmallJoins
import Derived.SizedLaws
import Derived.Carry
set_option linter.all false
namespace Go.Zz
open Go.ChangeShapes Go.WideShapes Go.ChangeAt Go.RowKit Go.Joins Go.Deep
section
variable {H:Type} {enc:TypeId × Value->H} {P:Program} {w:World} {held:Bool}
theorem weights_arg{T:List TypeId}{s:List (DataW H)}(h:(DataW.weightsEach P T s).all (·<=reachBytes)=true){j:Nat}{t:TypeId}{d:DataW H}(y:T[j]?=some t)(hd:s[j]?=some d):∀k∈d.weights P t,k<=reachBytes:=by
 intro k V;have:=oC.1 h _ (DataW.weights_mem_each y hd k V);simpa using this
end
end Go.Zz
