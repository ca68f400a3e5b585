/- Parts of sequences and their totals, the first part of a length, the shortest part, with the sum 0. -/
import Derived.Test.YtnnbhcalddkmmaaGreatGr11
import Derived.Test.YtnnbhcalddkmmaaGreatGr7
import Derived.Test.YtnnbhcalddkmmaaGreatGr3
import Derived.Test.YtnnbhcalddkmmaaGreatGr1
namespace Go.Zz
open Go.RowKit Go.Proofs
set_option maxHeartbeats 1000000
set_option maxRecDepth 20000
end Go.Zz
namespace Go.Zz
open Go.RowKit Go.Proofs
set_option maxHeartbeats 2000000
set_option maxRecDepth 20000
end Go.Zz
namespace Go.Zz
open Go.RowKit Go.Proofs
set_option maxHeartbeats 2000000
set_option maxRecDepth 20000
end Go.Zz
namespace Go.Zz
open Go.RowKit Go.Proofs
set_option maxHeartbeats 1000000
set_option maxRecDepth 4000
end Go.Zz
namespace Go.Zz
open Go.RowKit Go.Proofs
set_option maxHeartbeats 2000000
set_option maxRecDepth 4000
end Go.Zz
namespace Go.Zz
open Go.RowKit Go.Proofs
set_option maxHeartbeats 2000000
set_option maxRecDepth 4000
end Go.Zz
