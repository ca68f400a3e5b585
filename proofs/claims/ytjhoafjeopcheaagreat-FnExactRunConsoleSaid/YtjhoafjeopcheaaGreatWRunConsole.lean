/- RunConsole of the program and of the reference: the walk through the law. -/
import Derived.Test.YtjhoafjeopcheaaGreatGr38
set_option linter.all false
set_option maxHeartbeats 2000000
set_option maxRecDepth 8000
namespace Go.Zz
open Go.RowKit Go.Proofs
theorem FnExactRunConsole_walk(s:Ba){w:World}:Calls Tryz.prog 3 #[.string s] w (RE w (.bool true)):=by
 by_cases S:1048576<s.size;have o:(1048576:Int)<s.size:=om;exact zz127;have o:¬(1048576:Int)<s.size:=om;clear S;have c:=fun W=>bz4 s W;have C:=fun W=>c25 s W;obtain⟨X,h⟩:=nq (P1 lineV s);rw[<-h]at c C;clear h;go_in;go_wp2_with fail;refine cm (c _) fun G z=>?_;go_wp2_with fail;refine cm (C _) fun l I=>?_;go_wp2_with fail;go_ret;exact⟨rfl,z.trans I⟩
end Go.Zz
