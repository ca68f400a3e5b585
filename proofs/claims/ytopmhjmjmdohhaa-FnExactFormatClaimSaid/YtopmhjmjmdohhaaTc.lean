/- Copies of claims with their slices' shapes. -/
import Derived.Test.YtopmhjmjmdohhaaC45
namespace Go.Zz
open Go.RowKit Go.Proofs
set_option maxHeartbeats 400000

theorem szC_le {g o t q : List Int} {left : Int} (h : 0 ≤ left) : szC g o t q left ≤ left := by
  unfold szC
  rcases szL_cases g h with e | ⟨e, e2⟩
  · rw [if_pos (by omega)]; omega
  rw [if_neg (by omega)]
  rcases szL_cases o e with f | ⟨f, f2⟩
  · rw [if_pos (by omega)]; omega
  rw [if_neg (by omega)]
  rcases szL_cases t f with i | ⟨i, i2⟩
  · rw [if_pos (by omega)]; omega
  rw [if_neg (by omega)]
  rcases szL_cases q i with j | ⟨j, j2⟩ <;> omega
theorem toClaim_lit (k a b s p n : Int) (g o t q : List Int) (v1 v2 v3 v4 : Value) (w : World) (h : Ints4 w v1 v2 v3 v4 g o t q) :
    Calls Try.prog 30 #[.agg #[.int .i64 k, v1, v2, .int .i64 a, .int .i64 b, .int .i64 s, .int .i64 p, v3, v4, .int .i64 n]] w fun e w' => ∃ a1 a2 a3 a4 k1 k2 k3 k4, e = .returned (.agg #[.int .i64 k, .slice a1 g.length k1, .slice a2 o.length k2, .int .i64 a, .int .i64 b, .int .i64 s, .int .i64 p, .slice a3 t.length k3, .slice a4 q.length k4, .int .i64 n]) ∧ Ints4 w' (.slice a1 g.length k1) (.slice a2 o.length k2) (.slice a3 t.length k3) (.slice a4 q.length k4) g o t q ∧ Ext w w' :=
  (toClaim_any k a b s p n g o t q v1 v2 v3 v4 w h).mono fun e w' ⟨u1, u2, u3, u4, he, hO, hE⟩ => by
    have hI := hO.ints
    obtain ⟨a1, k1, rfl, -⟩ := hO.h1.shape
    obtain ⟨a2, k2, rfl, -⟩ := hO.h2.shape
    obtain ⟨a3, k3, rfl, -⟩ := hO.h3.shape
    obtain ⟨a4, k4, rfl, -⟩ := hO.h4.shape
    exact ⟨a1, a2, a3, a4, k1, k2, k3, k4, he, hI, hE⟩
theorem eqClaim_lit (k a b s p n : Int) (g o t q : List Int) (v1 v2 v3 v4 u1 u2 u3 u4 : Value) (w : World) (h : Ints4 w v1 v2 v3 v4 g o t q) (h' : Ints4 w u1 u2 u3 u4 g o t q) :
    Calls Try.prog 11 #[.agg #[.int .i64 k, v1, v2, .int .i64 a, .int .i64 b, .int .i64 s, .int .i64 p, v3, v4, .int .i64 n], .agg #[.int .i64 k, u1, u2, .int .i64 a, .int .i64 b, .int .i64 s, .int .i64 p, u3, u4, .int .i64 n]] w fun e w' => e = .returned (.bool true) ∧ Ext w w' := eqClaim_same k a b s p n g o t q v1 v2 v3 v4 u1 u2 u3 u4 w h h'
end Go.Zz
