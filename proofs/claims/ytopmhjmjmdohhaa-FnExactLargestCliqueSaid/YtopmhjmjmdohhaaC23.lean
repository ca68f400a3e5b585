/- Generated subgroups, hulls, covers. -/
import Derived.Test.YtopmhjmjmdohhaaC22
namespace Go.Zz
open Go.RowKit Go.Proofs
set_option maxHeartbeats 400000


end Go.Zz
