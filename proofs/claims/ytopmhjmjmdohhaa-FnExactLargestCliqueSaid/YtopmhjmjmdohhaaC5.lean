/- EqualGroups, MeetingBound. -/
import Derived.Test.YtopmhjmjmdohhaaC2
import Derived.Test.YtopmhjmjmdohhaaC3
namespace Go.Zz
open Go.RowKit Go.Proofs
set_option maxHeartbeats 400000



end Go.Zz
