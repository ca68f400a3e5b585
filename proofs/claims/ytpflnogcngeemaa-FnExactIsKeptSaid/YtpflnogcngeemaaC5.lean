/- EqualGroups, MeetingBound. -/
import Derived.Test.YtpflnogcngeemaaC2
import Derived.Test.YtpflnogcngeemaaC3
namespace Go.Zz
open Go.RowKit Go.Proofs
set_option maxHeartbeats 400000



end Go.Zz
