/- TilesOf of the program: its tiles are sorted by the library. -/
import Derived.Test.YtpjpfpmapdjnaaaLs
import Derived.Test.YtpjpfpmapdjnaaaGr10
namespace Go.Zz
open Go.RowKit Go.Proofs Go.Sort
set_option maxHeartbeats 2000000
set_option maxRecDepth 8000

/-- a slice that the call owns, sorted -/
theorem sort_own {w0 w : World} {v : Value} {l : List Int} (hO : Own 3 w0 w v l) (hE : Ext w0 w) (hn : l.length ≤ 1000000) :
    Calls Try.prog 43 #[v] w fun e w' => e = .returned (.tuple #[]) ∧ Own 3 w0 w' v (l.mergeSort fun x y => decide (x ≤ y)) ∧ Ext w0 w' := by
  have hO' := hO
  obtain ⟨⟨h1, h2⟩, h3⟩ := hO
  have hlen : (l.mergeSort fun x y => decide (x ≤ y)).length = l.length := List.length_mergeSort _
  rcases h2 with ⟨rfl, hz⟩ | ⟨g, cap, cur, rfl, hg, hh, hnc, hcm, hcs, htk⟩
  · have hl : l = [] := List.eq_nil_of_length_eq_zero (by simpa using hz)
    subst hl
    refine (AnyM.slices_Sort_int_none Try.laysSort none 0 w).mono ?_
    rintro e w' ⟨rfl, rfl⟩
    exact ⟨rfl, by simpa using hO', hE⟩
  · have hlt : g < w.heap.size := (Array.getElem?_eq_some_iff.1 hh).1
    have hH := holds_of_blockI (ss := l) hh (by simpa using htk)
    refine (AnyM.slices_Sort_int Try.laysSort g 0 cap l w hH hlt (by omega)).mono ?_
    rintro e w' ⟨rfl, n, os, rfl⟩
    have hr := ownsRow_sortedI (n := n) (os := os) hlen hg hh (by simpa using hnc) hcm hcs
    refine ⟨rfl, ⟨?_, by rw [hlen]; exact h3⟩, hE.grown (grownBy_sortedI _) fun k hk => by cases hk; exact hg⟩
    rw [hlen]; exact hr
end Go.Zz
