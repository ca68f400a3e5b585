/- Lines with one more part. -/
import Derived.Test.YtdlbbpeahicakaaGreatGr22
namespace Go.Zz
open Go.RowKit Go.Proofs
set_option maxHeartbeats 1000000
theorem one_more (X : ByteArray) (b : Bool) (t u : ByteArray) (h : u = (⟨#[32]⟩ : ByteArray) ++ t) : (if b then lineF [X, t] else X) = X ++ (if b then u else (⟨#[]⟩ : ByteArray)) := by
  subst h
  apply bytes_ext
  cases b <;> simp [lineF, jn, nthS, spB, List.getD]
theorem two_more (X t F u : ByteArray) (h : u = ((⟨#[32]⟩ : ByteArray) ++ t) ++ (⟨#[32]⟩ : ByteArray)) : lineF [X, t, F] = (X ++ u) ++ F := by
  subst h
  apply bytes_ext
  simp [lineF, jn, nthS, spB, List.getD]
theorem jn_more (f : Nat → ByteArray) (k : Nat) : (jn spB f (k + 1)).size ≤ (jn spB f k).size + 1 + (f k).size := by
  show ((if 0 < k then jn spB f k ++ spB else jn spB f k) ++ f k).size ≤ _
  have e : spB.size = 1 := rfl
  split <;> (simp only [ByteArray.size_append]; omega)
end Go.Zz
