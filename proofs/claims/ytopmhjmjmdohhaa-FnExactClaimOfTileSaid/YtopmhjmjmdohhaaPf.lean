/- Plain facts on tilings: the search fills the least element that is not reached yet. No program is named here. -/
import Derived.Test.YtopmhjmjmdohhaaPh
namespace Go.Zz

/-- the least i that is no bit of r -/
def lowG (r : Nat) : Nat → Nat → Nat
  | 0, e => e
  | n + 1, e => if r.testBit e then lowG r n (e + 1) else e
def lowZ (r : Nat) : Nat := lowG r 25 0
theorem lowG_is {r e : Nat} (h2 : r.testBit e = false) : ∀ n i, i ≤ e → e < i + n → (∀ j, i ≤ j → j < e → r.testBit j = true) → lowG r n i = e := by
  intro n
  induction n with
  | zero => intro i h3 h4; omega
  | succ n ih =>
    intro i h3 h4 h1
    unfold lowG
    by_cases hi : i = e
    · subst hi; rw [h2]; rfl
    · rw [h1 i (Nat.le_refl _) (by omega)]
      exact ih (i + 1) (by omega) (by omega) fun j hj hj2 => h1 j (by omega) hj2
theorem lowZ_is {r e : Nat} (h1 : ∀ j, j < e → r.testBit j = true) (h2 : r.testBit e = false) (h3 : e ≤ 24) : lowZ r = e :=
  lowG_is h2 25 0 (by omega) (by omega) fun j _ hj => h1 j hj
theorem not_full {l : List Int} {u e : Nat} (hu : u < 2 ^ ord l) (h : ∀ j, j < e → u.testBit j = true) (he : ord l ≤ e) : u = fullN l := by
  apply Nat.eq_of_testBit_eq
  intro i
  rw [fullN_bit]
  by_cases hi : i < ord l
  · rw [h i (by omega)]; simp [hi]
  · rw [testBit_ge hu (by omega)]; simp [hi]
def dF (l : List Int) (u x : Nat) : Nat := addF l (lowZ u) (negF l x)
theorem dF_lt {l : List Int} (h : isGrp l = true) (u x : Nat) : dF l u x < ord l := addF_lt l (isGrp_ords h) _ _

def tlS (l : List Int) (a : Nat) : Nat → Nat → Nat → Nat → List Nat
  | 0, _, _, _ => []
  | f + 1, u, b, m => if u = fullN l then [b] else
      (elems a).foldl (fun (out : List Nat) (x : Nat) => if out.length < m ∧ shiftF l a (dF l u x) &&& u = 0 then out ++ tlS l a f (u ||| shiftF l a (dF l u x)) (b ||| 2 ^ dF l u x) (m - out.length) else out) []
def tlSto (l : List Int) (a f u b m k : Nat) : List Nat := ((elems a).take k).foldl (fun (out : List Nat) (x : Nat) => if out.length < m ∧ shiftF l a (dF l u x) &&& u = 0 then out ++ tlS l a f (u ||| shiftF l a (dF l u x)) (b ||| 2 ^ dF l u x) (m - out.length) else out) []
theorem tlS_full {l : List Int} {a f u b m : Nat} (h : u = fullN l) : tlS l a (f + 1) u b m = [b] := by unfold tlS; rw [if_pos h]
theorem tlS_end {l : List Int} {a f u b m : Nat} (h : u ≠ fullN l) : tlS l a (f + 1) u b m = tlSto l a f u b m (elems a).length := by
  unfold tlS tlSto; rw [if_neg h, List.take_length]
theorem tlSto_zero (l : List Int) (a f u b m : Nat) : tlSto l a f u b m 0 = [] := rfl
theorem elems_take {a k : Nat} (hk : k < (elems a).length) : (elems a).take (k + 1) = (elems a).take k ++ [(elems a)[k]] := List.take_succ_eq_append_getElem hk
theorem tlSto_yes {l : List Int} {a f u b m k : Nat} (hk : k < (elems a).length) (hm : (tlSto l a f u b m k).length < m) (h : shiftF l a (dF l u (elems a)[k]) &&& u = 0) :
    tlSto l a f u b m (k + 1) = tlSto l a f u b m k ++ tlS l a f (u ||| shiftF l a (dF l u (elems a)[k])) (b ||| 2 ^ dF l u (elems a)[k]) (m - (tlSto l a f u b m k).length) := by
  unfold tlSto at hm ⊢; rw [elems_take hk, List.foldl_append]; simp only [List.foldl_cons, List.foldl_nil]; rw [if_pos ⟨hm, h⟩]
theorem tlSto_no {l : List Int} {a f u b m k : Nat} (hk : k < (elems a).length) (h : ¬ shiftF l a (dF l u (elems a)[k]) &&& u = 0) : tlSto l a f u b m (k + 1) = tlSto l a f u b m k := by
  unfold tlSto; rw [elems_take hk, List.foldl_append]; simp only [List.foldl_cons, List.foldl_nil]; rw [if_neg fun e => h e.2]
theorem tlSto_stop {l : List Int} {a f u b m k : Nat} (hm : ¬ (tlSto l a f u b m k).length < m) : ∀ d, tlSto l a f u b m (k + d) = tlSto l a f u b m k := by
  intro d
  induction d with
  | zero => rfl
  | succ d ih =>
    rw [← Nat.add_assoc]
    by_cases hk : k + d < (elems a).length
    · rw [← ih] at hm ⊢
      have e : tlSto l a f u b m (k + d + 1) = tlSto l a f u b m (k + d) := by
        unfold tlSto at hm ⊢; rw [elems_take hk, List.foldl_append]; simp only [List.foldl_cons, List.foldl_nil]; rw [if_neg fun e => hm e.1]
      rw [e]
    · rw [← ih]; unfold tlSto; rw [List.take_of_length_le (by omega), List.take_of_length_le (by omega)]
theorem tlS_stop {l : List Int} {a f u b m k : Nat} (h : u ≠ fullN l) (hk : k ≤ (elems a).length) (hm : k = (elems a).length ∨ ¬ (tlSto l a f u b m k).length < m) : tlS l a (f + 1) u b m = tlSto l a f u b m k := by
  rw [tlS_end h]
  rcases hm with rfl | hm
  · rfl
  · have := tlSto_stop hm ((elems a).length - k)
    rw [show k + ((elems a).length - k) = (elems a).length by omega] at this; exact this

def tlI (l : List Int) (a m : Nat) : Nat → Nat → Nat → List Nat → List Nat
  | 0, _, _, out => out
  | f + 1, u, b, out => if u = fullN l then out ++ [b] else
      (elems a).foldl (fun (out : List Nat) (x : Nat) => if shiftF l a (dF l u x) &&& u = 0 ∧ out.length < m then tlI l a m f (u ||| shiftF l a (dF l u x)) (b ||| 2 ^ dF l u x) out else out) out
def tlIto (l : List Int) (a m f u b : Nat) (out : List Nat) (k : Nat) : List Nat := ((elems a).take k).foldl (fun (out : List Nat) (x : Nat) => if shiftF l a (dF l u x) &&& u = 0 ∧ out.length < m then tlI l a m f (u ||| shiftF l a (dF l u x)) (b ||| 2 ^ dF l u x) out else out) out
theorem tlI_full {l : List Int} {a m f u b : Nat} {out : List Nat} (h : u = fullN l) : tlI l a m (f + 1) u b out = out ++ [b] := by unfold tlI; rw [if_pos h]
theorem tlI_end {l : List Int} {a m f u b : Nat} {out : List Nat} (h : u ≠ fullN l) : tlI l a m (f + 1) u b out = tlIto l a m f u b out (elems a).length := by
  unfold tlI tlIto; rw [if_neg h, List.take_length]
theorem tlIto_zero (l : List Int) (a m f u b : Nat) (out : List Nat) : tlIto l a m f u b out 0 = out := rfl
theorem tlIto_yes {l : List Int} {a m f u b k : Nat} {out : List Nat} (hk : k < (elems a).length) (h : shiftF l a (dF l u (elems a)[k]) &&& u = 0) (hm : (tlIto l a m f u b out k).length < m) :
    tlIto l a m f u b out (k + 1) = tlI l a m f (u ||| shiftF l a (dF l u (elems a)[k])) (b ||| 2 ^ dF l u (elems a)[k]) (tlIto l a m f u b out k) := by
  unfold tlIto at hm ⊢; rw [elems_take hk, List.foldl_append]; simp only [List.foldl_cons, List.foldl_nil]; rw [if_pos ⟨h, hm⟩]
theorem tlIto_no {l : List Int} {a m f u b k : Nat} {out : List Nat} (hk : k < (elems a).length) (h : ¬ (shiftF l a (dF l u (elems a)[k]) &&& u = 0 ∧ (tlIto l a m f u b out k).length < m)) :
    tlIto l a m f u b out (k + 1) = tlIto l a m f u b out k := by
  unfold tlIto at h ⊢; rw [elems_take hk, List.foldl_append]; simp only [List.foldl_cons, List.foldl_nil]; rw [if_neg h]
theorem tlI_eq (l : List Int) (a m : Nat) : ∀ f u b out, out.length < m → tlI l a m f u b out = out ++ tlS l a f u b (m - out.length) := by
  intro f
  induction f with
  | zero => intro u b out _; simp [tlI, tlS]
  | succ f ih =>
    intro u b out hm
    by_cases h : u = fullN l
    · rw [tlI_full h, tlS_full h]
    · unfold tlI tlS
      rw [if_neg h, if_neg h]
      have key : ∀ (L : List Nat) (oS : List Nat), L.foldl (fun (out : List Nat) (x : Nat) => if shiftF l a (dF l u x) &&& u = 0 ∧ out.length < m then tlI l a m f (u ||| shiftF l a (dF l u x)) (b ||| 2 ^ dF l u x) out else out) (out ++ oS) =
          out ++ L.foldl (fun (o : List Nat) (x : Nat) => if o.length < m - out.length ∧ shiftF l a (dF l u x) &&& u = 0 then o ++ tlS l a f (u ||| shiftF l a (dF l u x)) (b ||| 2 ^ dF l u x) (m - out.length - o.length) else o) oS := by
        intro L
        induction L with
        | nil => intro oS; rfl
        | cons x L ih2 =>
          intro oS
          simp only [List.foldl_cons]
          by_cases hs : shiftF l a (dF l u x) &&& u = 0
          · by_cases hl : oS.length < m - out.length
            · rw [if_pos ⟨hs, by rw [List.length_append]; omega⟩, if_pos ⟨hl, hs⟩, ih _ _ _ (by rw [List.length_append]; omega), List.append_assoc, List.length_append, show m - (out.length + oS.length) = m - out.length - oS.length by omega]
              exact ih2 _
            · rw [if_neg (by rw [List.length_append]; intro e; omega), if_neg fun e => hl e.1]
              exact ih2 _
          · rw [if_neg fun e => hs e.1, if_neg fun e => hs e.2]
            exact ih2 _
      have := key (elems a) []
      simpa using this
/-- a step reaches more -/
theorem tl_more {l : List Int} (hg : isGrp l = true) {a u : Nat} (ha : a ≠ 0) (ha2 : a < 2 ^ ord l) (hu : u < 2 ^ ord l) (d : Nat) (h : shiftF l a d &&& u = 0) :
    u ||| shiftF l a d < 2 ^ ord l ∧ cnt u < cnt (u ||| shiftF l a d) := by
  have hs := shiftF_lt (isGrp_ords hg) a d
  have h1 := Nat.or_lt_two_pow hu hs
  have hp := pow_ord hg
  refine ⟨h1, (sub_lt (Nat.lt_of_lt_of_le h1 hp) (fun i hi => by rw [Nat.testBit_or, hi]; rfl) fun e => ?_).2⟩
  have hc : cnt (shiftF l a d) ≠ 0 := by
    rw [cnt_shift hg ha2]
    have := cnt_pos (Nat.pos_of_ne_zero ha) (Nat.lt_of_lt_of_le ha2 hp); omega
  obtain ⟨i, hi⟩ := bit_of_pos (cnt_ne hc)
  have h3 : u.testBit i = true := by rw [e, Nat.testBit_or, hi]; simp
  have h4 : (shiftF l a d &&& u).testBit i = true := by rw [Nat.testBit_and, hi, h3]; rfl
  rw [h, Nat.zero_testBit] at h4; cases h4
def tileL (l : List Int) (a m : Nat) : List Nat := tlS l a (ord l + 1) a 1 m
theorem tlS_len (l : List Int) (a : Nat) : ∀ f u b m, 1 ≤ m → (tlS l a f u b m).length ≤ m := by
  intro f
  induction f with
  | zero => intro u b m _; simp [tlS]
  | succ f ih =>
    intro u b m hm
    unfold tlS
    split
    · simpa using hm
    · have key : ∀ (L : List Nat) (oS : List Nat), oS.length ≤ m → (L.foldl (fun (o : List Nat) (x : Nat) => if o.length < m ∧ shiftF l a (dF l u x) &&& u = 0 then o ++ tlS l a f (u ||| shiftF l a (dF l u x)) (b ||| 2 ^ dF l u x) (m - o.length) else o) oS).length ≤ m := by
        intro L
        induction L with
        | nil => intro oS h; exact h
        | cons x L ih2 =>
          intro oS h
          simp only [List.foldl_cons]
          refine ih2 _ ?_
          split
          · next h3 => have := ih (u ||| shiftF l a (dF l u x)) (b ||| 2 ^ dF l u x) (m - oS.length) (by omega); rw [List.length_append]; omega
          · exact h
      exact key _ _ (by simp)
/-- the first tile -/
def ftB (l : List Int) (a : Int) : Bool := isOneB l a && !(tileL l a.toNat 1).isEmpty
def ftV (l : List Int) (a : Int) : Int := if ftB l a then (((tileL l a.toNat 1).headD 0 : Nat) : Int) else 0
theorem ft_no {l : List Int} {a : Int} (h : isOneB l a = false) : ftB l a = false ∧ ftV l a = 0 := by
  have e : ftB l a = false := by unfold ftB; rw [h]; rfl
  exact ⟨e, by unfold ftV; rw [e]; rfl⟩
theorem ft_nil {l : List Int} {n : Nat} (h : tileL l n 1 = []) : ftB l n = false ∧ ftV l n = 0 := by
  have e : ftB l n = false := by unfold ftB; rw [show ((n : Int)).toNat = n from rfl, h]; simp
  exact ⟨e, by unfold ftV; rw [e]; rfl⟩
theorem ft_yes {l : List Int} {n : Nat} (h1 : isOneB l n = true) {x : Nat} {L : List Nat} (h : tileL l n 1 = x :: L) : ftB l n = true ∧ ftV l n = (x : Int) := by
  have e : ftB l n = true := by unfold ftB; rw [h1, show ((n : Int)).toNat = n from rfl, h]; rfl
  exact ⟨e, by unfold ftV; rw [e, show ((n : Int)).toNat = n from rfl, h]; rfl⟩
end Go.Zz
