/- The table of sums of the reference; kept counts. -/
import Derived.Test.YtopokpamhojooaaC21
import Derived.Test.YtopokpamhojooaaC8
import Derived.Test.YtopokpamhojooaaPk
namespace Go.Zz
open Go.RowKit Go.Proofs
set_option maxHeartbeats 400000

theorem lat_cell {w : World} {p : Addr} {x : Value} (h : w.cell? p = some x) (U : World) : (Lat w U).cell? p = some x := (lat_ext w U).cell h
end Go.Zz
