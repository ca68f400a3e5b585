/- FindFreimanIso of the program: its closure. -/
import Derived.Test.YtopokpamhojooaaC88
import Derived.Test.YtopokpamhojooaaC78
namespace Go.Zz
open Go.RowKit Go.Proofs
set_option maxHeartbeats 2000000
set_option maxRecDepth 4000

/-- a slice without its last number -/
theorem Own.pop {TI : TypeId} {w0 w : World} {ao : Option Addr} {n c : Nat} {l : List Int} {y : Int} (h : Own TI w0 w (.slice ao (n + 1) c) (l ++ [y])) (hn : l.length = n) : Own TI w0 w (.slice ao n c) l := by
  obtain ⟨⟨h1, h2⟩, h3⟩ := h
  rw [List.length_append] at h3
  rcases h2 with ⟨hv, hz⟩ | ⟨g, cap, cur, hv, hg, hh, hnc, hcm, hcs, htk⟩
  · simp at hz
  · simp only [Value.slice.injEq, List.length_append, List.length_singleton] at hv
    obtain ⟨rfl, -, rfl⟩ := hv
    refine ⟨⟨by simp, Or.inr ⟨g, c, cur, by rw [hn], hg, hh, by simp at hnc; omega, hcm, hcs, ?_⟩⟩, by simp at h3; omega⟩
    have := congrArg (List.take l.length) htk
    rw [List.take_take] at this
    simp at this ⊢
    exact this
/-- the blocks that a try writes: two boxes and the row of the first -/
def Sm (a b : Nat) (o : Option Nat) (k : Nat) : Prop := k = a ∨ k = b ∨ some k = o
theorem Sm.old {a b : Nat} {o o1 : Option Nat} {w : World} (h : Nw o w o1) {k : Nat} (hk : k < w.heap.size) (hs : Sm a b o1 k) : Sm a b o k := by
  rcases hs with hs | hs | hs
  · exact Or.inl hs
  · exact Or.inr (Or.inl hs)
  · rcases h with h | h
    · exact Or.inr (Or.inr (by rw [← h]; exact hs))
    · have := h k hs.symm; omega
theorem Fw.transN {a b : Nat} {o o1 : Option Nat} {w w1 w2 : World} (h : Fw (Sm a b o) w w1) (hn : Nw o w o1) (k : Fw (Sm a b o1) w1 w2) : Fw (Sm a b o) w w2 :=
  ⟨k.os.trans h.os, k.tape.trans h.tape, k.output.trans h.output, Nat.le_trans h.size k.size, fun i hi hs => (k.block i (Nat.lt_of_lt_of_le hi h.size) fun e => hs (Sm.old hn hi e)).trans (h.block i hi hs)⟩
end Go.Zz
