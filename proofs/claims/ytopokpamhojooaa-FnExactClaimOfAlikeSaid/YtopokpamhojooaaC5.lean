/- EqualGroups, MeetingBound. -/
import Derived.Test.YtopokpamhojooaaC2
import Derived.Test.YtopokpamhojooaaC3
namespace Go.Zz
open Go.RowKit Go.Proofs
set_option maxHeartbeats 400000



end Go.Zz
