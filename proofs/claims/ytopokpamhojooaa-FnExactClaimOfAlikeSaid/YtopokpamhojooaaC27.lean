/- Kept counts: IsKept. -/
import Derived.Test.YtopokpamhojooaaC26
import Derived.Deep.RegionHeld3
import Derived.Deep.RegionWith
namespace Go.Zz
open Go.RowKit Go.Proofs
set_option maxHeartbeats 400000

end Go.Zz
