/- Claims of cosets. -/
import Derived.Test.YtlegcppncdiijaaC36
import Derived.Test.YtlegcppncdiijaaC24
namespace Go.Zz
open Go.RowKit Go.Proofs
set_option maxHeartbeats 2000000
set_option maxRecDepth 20000

end Go.Zz
