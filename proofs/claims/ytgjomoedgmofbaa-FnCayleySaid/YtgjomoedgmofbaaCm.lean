/- Marks in what is owned: groups. -/
import Derived.Test.YtgjomoedgmofbaaC4
namespace Go.Zz
open Go.RowKit Go.Proofs
/-- what lies in another block stays -/
theorem Own.kept {TI : TypeId} {w0 w w' : World} {v : Value} {l : List Int} {row : Option Nat} (h : Own TI w0 w v l) (hg : w.grownBy w' row) (hne : v.ownBlock = none ∨ v.ownBlock ≠ row) : Own TI w0 w' v l :=
  ⟨h.1.kept hg hne, h.2⟩
theorem blk_ne {TI : TypeId} {a b c d : World} {u v : Value} {l m : List Int} (h : Own TI a b u l) (k : Own TI c d v m) (hs : b.heap.size ≤ c.heap.size) : u.ownBlock = none ∨ u.ownBlock ≠ v.ownBlock := by
  cases hu : u.ownBlock with
  | none => exact Or.inl rfl
  | some i =>
    refine Or.inr fun e => ?_
    have h1 := (h.blk i hu).2
    have h2 := (k.blk i e.symm).1
    omega
theorem blk_ne' {TI : TypeId} {a b c d : World} {u v : Value} {l m : List Int} (h : Own TI a b u l) (k : Own TI c d v m) (hs : d.heap.size ≤ a.heap.size) : u.ownBlock = none ∨ u.ownBlock ≠ v.ownBlock := by
  cases hu : u.ownBlock with
  | none => exact Or.inl rfl
  | some i =>
    refine Or.inr fun e => ?_
    have h1 := (h.blk i hu).1
    have h2 := (k.blk i e.symm).2
    omega
end Go.Zz
