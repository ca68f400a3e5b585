/- Kept: the laws' helpers, EqualKept. -/
import Derived.Test.YtopokpamhojooaaC4
import Derived.Test.YtopokpamhojooaaC5
namespace Go.Zz
open Go.RowKit Go.Proofs
set_option maxHeartbeats 400000

/-- a value of type Kept -/
def IsK (w : World) (c : Value) (l : List Int) (n : Int) (m : List Int) : Prop := ∃ v u, c = .agg #[v, .int .i64 n, u] ∧ Ints w v l ∧ Ints w u m
theorem IsK.ext {w w' : World} {c : Value} {l m : List Int} {n : Int} (h : IsK w c l n m) (hE : Ext w w') : IsK w' c l n m := by
  obtain ⟨v, u, rfl, h1, h2⟩ := h; exact ⟨v, u, rfl, h1.ext hE, h2.ext hE⟩
def szK (l m : List Int) (left : Int) : Int := if szL l left < 0 then -1 else szL m (szL l left)
theorem szL_cases (l : List Int) {left : Int} (h : 0 ≤ left) : szL l left = -1 ∨ (0 ≤ szL l left ∧ szL l left ≤ left) := by unfold szL; split <;> omega


def eqK (l m : List Int) (n : Int) (l' m' : List Int) (n' : Int) : Bool := decide (l = l' ∧ n = n' ∧ m = m')
end Go.Zz
