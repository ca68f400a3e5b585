/- The greedy translates. -/
import Derived.Test.YtopokpamhojooaaC16
import Derived.Test.YtopokpamhojooaaPg
namespace Go.Zz
open Go.RowKit Go.Proofs
set_option maxHeartbeats 400000

theorem fullF_n {l : List Int} (h : isGrp l = true) : fullF l = (fullN l : Int) := by
  rw [fullF_t h]; unfold fullN; have := pw_pos (ord l); omega
--%call FullSetN 145 ext FullSet_grp _ _ _ ({0}) ({1})
theorem FullSet_grp (v : Value) (l : List Int) (w : World) (h : Ints w v l) (Hgr : Hid (isGrp l = true)) :
    Calls Try.prog 145 #[.agg #[v]] w fun e w' => e = .returned (.int .i64 (fullN l)) ∧ Ext w w' := by
  rw [← fullF_n Hgr.out]; exact FullSet_any v l w h
--%call OrderOfN 59 ext OrderOf_grp _ _ _ ({0}) ({1})
theorem OrderOf_grp (v : Value) (l : List Int) (w : World) (h : Ints w v l) (Hgr : Hid (isGrp l = true)) :
    Calls Try.prog 59 #[.agg #[v]] w fun e w' => e = .returned (.int .i64 (ord l : Int)) ∧ Ext w w' := by
  rw [← ordF_t Hgr.out]; exact OrderOf_any v l w h


theorem andN_int {l : List Int} {a b : Nat} (h : a < 2 ^ ord l) : (a : Int) - ((a &&& b : Nat) : Int) = ((andN a b : Nat) : Int) := by
  have := andN_sub (ord l) a b h; omega
end Go.Zz
