/- EqualGroups, MeetingBound. -/
import Derived.Test.YtopdmgfbpdcnlaaC2
import Derived.Test.YtopdmgfbpdcnlaaC3
namespace Go.Zz
open Go.RowKit Go.Proofs
set_option maxHeartbeats 400000



end Go.Zz
