/- The table of sums: how often each element is a sum. Plain laws. -/
import Derived.Test.YtgjomoedgmofbaaC16
namespace Go.Zz
open Go.RowKit Go.Proofs
set_option maxHeartbeats 400000

/-- one more at a place -/
def bump (t : List Int) (z : Nat) : List Int := t.set z (nth t z + 1)
theorem bump_len (t : List Int) (z : Nat) : (bump t z).length = t.length := by simp [bump]
def tabIn (l : List Int) (x : Nat) (t : List Int) (L : List Nat) : List Int := L.foldl (fun t y => bump t (addF l x y)) t
def tabOut (l : List Int) (b : Nat) (t : List Int) (L : List Nat) : List Int := L.foldl (fun t x => tabIn l x t (elems b)) t
theorem tabIn_snoc (l : List Int) (x : Nat) (t : List Int) (L : List Nat) (y : Nat) : tabIn l x t (L ++ [y]) = bump (tabIn l x t L) (addF l x y) := by
  unfold tabIn; rw [List.foldl_append]; rfl
theorem tabOut_snoc (l : List Int) (b : Nat) (t : List Int) (L : List Nat) (x : Nat) : tabOut l b t (L ++ [x]) = tabIn l x (tabOut l b t L) (elems b) := by
  unfold tabOut; rw [List.foldl_append]; rfl
theorem nth_bump (t : List Int) (z i : Nat) (hz : z < t.length) : nth (bump t z) i = if i = z then nth t z + 1 else nth t i := by
  unfold bump nth
  simp only [List.getD_eq_getElem?_getD, List.getElem?_set]
  by_cases h : i = z
  · subst h; simp [hz]
  · have h' : ¬ z = i := fun e => h e.symm
    simp [h, h']
/-- every count lies between 0 and B -/
def Upto (t : List Int) (B : Int) : Prop := ∀ i, 0 ≤ nth t i ∧ nth t i ≤ B
theorem Upto.bump {t : List Int} {B : Int} (h : Upto t B) {z : Nat} (hz : z < t.length) : Upto (bump t z) (B + 1) := fun i => by
  rw [nth_bump t z i hz]
  have h1 := h z
  have h2 := h i
  split <;> omega
theorem Upto.zeros (n : Nat) : Upto (List.replicate n 0) 0 := fun i => by
  unfold nth
  simp only [List.getD_eq_getElem?_getD, List.getElem?_replicate]
  split <;> simp
def tabF (l : List Int) (a b : Int) : List Int := if isSetB l a && isSetB l b then tabOut l b.toNat (List.replicate (ord l) 0) (elems a.toNat) else []
theorem tabF_no {l : List Int} {a b : Int} (h : (isSetB l a && isSetB l b) = false) : tabF l a b = [] := by unfold tabF; rw [h]; rfl
theorem tabF_yes {l : List Int} {a b : Nat} (h : (isSetB l a && isSetB l b) = true) : tabF l a b = tabOut l b (List.replicate (ord l) 0) (elems a) := by unfold tabF; rw [h]; rfl
end Go.Zz
