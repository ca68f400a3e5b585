/- Marks in what is owned: groups. -/
import Derived.Test.YtopokpamhojooaaC4
namespace Go.Zz
open Go.RowKit Go.Proofs
/-- what lies in another block stays -/
theorem Own.kept {TI : TypeId} {w0 w w' : World} {v : Value} {l : List Int} {row : Option Nat} (h : Own TI w0 w v l) (hg : w.grownBy w' row) (hne : v.ownBlock = none ∨ v.ownBlock ≠ row) : Own TI w0 w' v l :=
  ⟨h.1.kept hg hne, h.2⟩
theorem blk_ne {TI : TypeId} {a b c d : World} {u v : Value} {l m : List Int} (h : Own TI a b u l) (k : Own TI c d v m) (hs : b.heap.size ≤ c.heap.size) : u.ownBlock = none ∨ u.ownBlock ≠ v.ownBlock := by
  cases hu : u.ownBlock with
  | none => exact Or.inl rfl
  | some i =>
    refine Or.inr fun e => ?_
    have h1 := (h.blk i hu).2
    have h2 := (k.blk i e.symm).1
    omega
theorem blk_ne' {TI : TypeId} {a b c d : World} {u v : Value} {l m : List Int} (h : Own TI a b u l) (k : Own TI c d v m) (hs : d.heap.size ≤ a.heap.size) : u.ownBlock = none ∨ u.ownBlock ≠ v.ownBlock := by
  cases hu : u.ownBlock with
  | none => exact Or.inl rfl
  | some i =>
    refine Or.inr fun e => ?_
    have h1 := (h.blk i hu).1
    have h2 := (k.blk i e.symm).2
    omega
theorem markGroup_any (v : Value) (l : List Int) (k0 : Int) (w0 w : World) (h : Own 3 w0 w v l) (h1 : 0 ≤ k0) (h2 : k0 ≤ 17592186044416) :
    Calls Try.prog 17 #[.agg #[v], .int .i64 k0] w fun e w' => e = .returned (.int .i64 (k0 + l.length)) ∧ Own 3 w0 w' v (marks k0 l.length) ∧ w.grownBy w' v.ownBlock := by
  have hA := h.alloc (.cells #[v] 30)
  have hg0 := (World.grownBy_alloc w (.cells #[v] 30) none).but v.ownBlock
  go_enter Try.func17, Try.ntmps17
  go_wp2_with fail
  refine (markIntS_any _ _ _ _ _ hA h1 h2).mono ?_
  rintro e w1 ⟨rfl, hO, hG⟩
  go_wp2_with fail
  go_ret
  exact ⟨rfl, hO, hg0.trans hG⟩
end Go.Zz
