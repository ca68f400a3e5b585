/- Plain facts on tilings: the search fills the least element that is not reached yet. No program is named here. -/
import Derived.Test.YtpjpfpmapdjnaaaGr5
import Derived.Test.YtpjpfpmapdjnaaaGr6
namespace Go.Zz

/-- the least i that is no bit of r -/
def lowG (r : Nat) : Nat → Nat → Nat
  | 0, e => e
  | n + 1, e => if r.testBit e then lowG r n (e + 1) else e
def lowZ (r : Nat) : Nat := lowG r 25 0
theorem lowG_is {r e : Nat} (h2 : r.testBit e = false) : ∀ n i, i ≤ e → e < i + n → (∀ j, i ≤ j → j < e → r.testBit j = true) → lowG r n i = e := by
  intro n
  induction n with
  | zero => intro i h3 h4; omega
  | succ n ih =>
    intro i h3 h4 h1
    unfold lowG
    by_cases hi : i = e
    · subst hi; rw [h2]; rfl
    · rw [h1 i (Nat.le_refl _) (by omega)]
      exact ih (i + 1) (by omega) (by omega) fun j hj hj2 => h1 j (by omega) hj2
theorem lowZ_is {r e : Nat} (h1 : ∀ j, j < e → r.testBit j = true) (h2 : r.testBit e = false) (h3 : e ≤ 24) : lowZ r = e :=
  lowG_is h2 25 0 (by omega) (by omega) fun j _ hj => h1 j hj
theorem not_full {l : List Int} {u e : Nat} (hu : u < 2 ^ ord l) (h : ∀ j, j < e → u.testBit j = true) (he : ord l ≤ e) : u = fullN l := by
  apply Nat.eq_of_testBit_eq
  intro i
  rw [fullN_bit]
  by_cases hi : i < ord l
  · rw [h i (by omega)]; simp [hi]
  · rw [testBit_ge hu (by omega)]; simp [hi]
def dF (l : List Int) (u x : Nat) : Nat := addF l (lowZ u) (negF l x)
theorem dF_lt {l : List Int} (h : isGrp l = true) (u x : Nat) : dF l u x < ord l := addF_lt l (isGrp_ords h) _ _

def tlS (l : List Int) (a : Nat) : Nat → Nat → Nat → Nat → List Nat
  | 0, _, _, _ => []
  | f + 1, u, b, m => if u = fullN l then [b] else
      (elems a).foldl (fun (out : List Nat) (x : Nat) => if out.length < m ∧ shiftF l a (dF l u x) &&& u = 0 then out ++ tlS l a f (u ||| shiftF l a (dF l u x)) (b ||| 2 ^ dF l u x) (m - out.length) else out) []
def tlSto (l : List Int) (a f u b m k : Nat) : List Nat := ((elems a).take k).foldl (fun (out : List Nat) (x : Nat) => if out.length < m ∧ shiftF l a (dF l u x) &&& u = 0 then out ++ tlS l a f (u ||| shiftF l a (dF l u x)) (b ||| 2 ^ dF l u x) (m - out.length) else out) []
theorem tlS_full {l : List Int} {a f u b m : Nat} (h : u = fullN l) : tlS l a (f + 1) u b m = [b] := by unfold tlS; rw [if_pos h]
theorem tlS_end {l : List Int} {a f u b m : Nat} (h : u ≠ fullN l) : tlS l a (f + 1) u b m = tlSto l a f u b m (elems a).length := by
  unfold tlS tlSto; rw [if_neg h, List.take_length]
theorem tlSto_zero (l : List Int) (a f u b m : Nat) : tlSto l a f u b m 0 = [] := rfl
theorem elems_take {a k : Nat} (hk : k < (elems a).length) : (elems a).take (k + 1) = (elems a).take k ++ [(elems a)[k]] := List.take_succ_eq_append_getElem hk
theorem tlSto_yes {l : List Int} {a f u b m k : Nat} (hk : k < (elems a).length) (hm : (tlSto l a f u b m k).length < m) (h : shiftF l a (dF l u (elems a)[k]) &&& u = 0) :
    tlSto l a f u b m (k + 1) = tlSto l a f u b m k ++ tlS l a f (u ||| shiftF l a (dF l u (elems a)[k])) (b ||| 2 ^ dF l u (elems a)[k]) (m - (tlSto l a f u b m k).length) := by
  unfold tlSto at hm ⊢; rw [elems_take hk, List.foldl_append]; simp only [List.foldl_cons, List.foldl_nil]; rw [if_pos ⟨hm, h⟩]
theorem tlSto_no {l : List Int} {a f u b m k : Nat} (hk : k < (elems a).length) (h : ¬ shiftF l a (dF l u (elems a)[k]) &&& u = 0) : tlSto l a f u b m (k + 1) = tlSto l a f u b m k := by
  unfold tlSto; rw [elems_take hk, List.foldl_append]; simp only [List.foldl_cons, List.foldl_nil]; rw [if_neg fun e => h e.2]
theorem tlSto_stop {l : List Int} {a f u b m k : Nat} (hm : ¬ (tlSto l a f u b m k).length < m) : ∀ d, tlSto l a f u b m (k + d) = tlSto l a f u b m k := by
  intro d
  induction d with
  | zero => rfl
  | succ d ih =>
    rw [← Nat.add_assoc]
    by_cases hk : k + d < (elems a).length
    · rw [← ih] at hm ⊢
      have e : tlSto l a f u b m (k + d + 1) = tlSto l a f u b m (k + d) := by
        unfold tlSto at hm ⊢; rw [elems_take hk, List.foldl_append]; simp only [List.foldl_cons, List.foldl_nil]; rw [if_neg fun e => hm e.1]
      rw [e]
    · rw [← ih]; unfold tlSto; rw [List.take_of_length_le (by omega), List.take_of_length_le (by omega)]
theorem tlS_stop {l : List Int} {a f u b m k : Nat} (h : u ≠ fullN l) (hk : k ≤ (elems a).length) (hm : k = (elems a).length ∨ ¬ (tlSto l a f u b m k).length < m) : tlS l a (f + 1) u b m = tlSto l a f u b m k := by
  rw [tlS_end h]
  rcases hm with rfl | hm
  · rfl
  · have := tlSto_stop hm ((elems a).length - k)
    rw [show k + ((elems a).length - k) = (elems a).length by omega] at this; exact this

def tlI (l : List Int) (a m : Nat) : Nat → Nat → Nat → List Nat → List Nat
  | 0, _, _, out => out
  | f + 1, u, b, out => if u = fullN l then out ++ [b] else
      (elems a).foldl (fun (out : List Nat) (x : Nat) => if shiftF l a (dF l u x) &&& u = 0 ∧ out.length < m then tlI l a m f (u ||| shiftF l a (dF l u x)) (b ||| 2 ^ dF l u x) out else out) out
def tlIto (l : List Int) (a m f u b : Nat) (out : List Nat) (k : Nat) : List Nat := ((elems a).take k).foldl (fun (out : List Nat) (x : Nat) => if shiftF l a (dF l u x) &&& u = 0 ∧ out.length < m then tlI l a m f (u ||| shiftF l a (dF l u x)) (b ||| 2 ^ dF l u x) out else out) out
theorem tlI_full {l : List Int} {a m f u b : Nat} {out : List Nat} (h : u = fullN l) : tlI l a m (f + 1) u b out = out ++ [b] := by unfold tlI; rw [if_pos h]
theorem tlI_end {l : List Int} {a m f u b : Nat} {out : List Nat} (h : u ≠ fullN l) : tlI l a m (f + 1) u b out = tlIto l a m f u b out (elems a).length := by
  unfold tlI tlIto; rw [if_neg h, List.take_length]
theorem tlIto_zero (l : List Int) (a m f u b : Nat) (out : List Nat) : tlIto l a m f u b out 0 = out := rfl
theorem tlIto_yes {l : List Int} {a m f u b k : Nat} {out : List Nat} (hk : k < (elems a).length) (h : shiftF l a (dF l u (elems a)[k]) &&& u = 0) (hm : (tlIto l a m f u b out k).length < m) :
    tlIto l a m f u b out (k + 1) = tlI l a m f (u ||| shiftF l a (dF l u (elems a)[k])) (b ||| 2 ^ dF l u (elems a)[k]) (tlIto l a m f u b out k) := by
  unfold tlIto at hm ⊢; rw [elems_take hk, List.foldl_append]; simp only [List.foldl_cons, List.foldl_nil]; rw [if_pos ⟨h, hm⟩]
theorem tlIto_no {l : List Int} {a m f u b k : Nat} {out : List Nat} (hk : k < (elems a).length) (h : ¬ (shiftF l a (dF l u (elems a)[k]) &&& u = 0 ∧ (tlIto l a m f u b out k).length < m)) :
    tlIto l a m f u b out (k + 1) = tlIto l a m f u b out k := by
  unfold tlIto at h ⊢; rw [elems_take hk, List.foldl_append]; simp only [List.foldl_cons, List.foldl_nil]; rw [if_neg h]
theorem tlI_eq (l : List Int) (a m : Nat) : ∀ f u b out, out.length < m → tlI l a m f u b out = out ++ tlS l a f u b (m - out.length) := by
  intro f
  induction f with
  | zero => intro u b out _; simp [tlI, tlS]
  | succ f ih =>
    intro u b out hm
    by_cases h : u = fullN l
    · rw [tlI_full h, tlS_full h]
    · unfold tlI tlS
      rw [if_neg h, if_neg h]
      have key : ∀ (L : List Nat) (oS : List Nat), L.foldl (fun (out : List Nat) (x : Nat) => if shiftF l a (dF l u x) &&& u = 0 ∧ out.length < m then tlI l a m f (u ||| shiftF l a (dF l u x)) (b ||| 2 ^ dF l u x) out else out) (out ++ oS) =
          out ++ L.foldl (fun (o : List Nat) (x : Nat) => if o.length < m - out.length ∧ shiftF l a (dF l u x) &&& u = 0 then o ++ tlS l a f (u ||| shiftF l a (dF l u x)) (b ||| 2 ^ dF l u x) (m - out.length - o.length) else o) oS := by
        intro L
        induction L with
        | nil => intro oS; rfl
        | cons x L ih2 =>
          intro oS
          simp only [List.foldl_cons]
          by_cases hs : shiftF l a (dF l u x) &&& u = 0
          · by_cases hl : oS.length < m - out.length
            · rw [if_pos ⟨hs, by rw [List.length_append]; omega⟩, if_pos ⟨hl, hs⟩, ih _ _ _ (by rw [List.length_append]; omega), List.append_assoc, List.length_append, show m - (out.length + oS.length) = m - out.length - oS.length by omega]
              exact ih2 _
            · rw [if_neg (by rw [List.length_append]; intro e; omega), if_neg fun e => hl e.1]
              exact ih2 _
          · rw [if_neg fun e => hs e.1, if_neg fun e => hs e.2]
            exact ih2 _
      have := key (elems a) []
      simpa using this
/-- a step reaches more -/
theorem tl_more {l : List Int} (hg : isGrp l = true) {a u : Nat} (ha : a ≠ 0) (ha2 : a < 2 ^ ord l) (hu : u < 2 ^ ord l) (d : Nat) (h : shiftF l a d &&& u = 0) :
    u ||| shiftF l a d < 2 ^ ord l ∧ cnt u < cnt (u ||| shiftF l a d) := by
  have hs := shiftF_lt (isGrp_ords hg) a d
  have h1 := Nat.or_lt_two_pow hu hs
  have hp := pow_ord hg
  refine ⟨h1, (sub_lt (Nat.lt_of_lt_of_le h1 hp) (fun i hi => by rw [Nat.testBit_or, hi]; rfl) fun e => ?_).2⟩
  have hc : cnt (shiftF l a d) ≠ 0 := by
    rw [cnt_shift hg ha2]
    have := cnt_pos (Nat.pos_of_ne_zero ha) (Nat.lt_of_lt_of_le ha2 hp); omega
  obtain ⟨i, hi⟩ := bit_of_pos (cnt_ne hc)
  have h3 : u.testBit i = true := by rw [e, Nat.testBit_or, hi]; simp
  have h4 : (shiftF l a d &&& u).testBit i = true := by rw [Nat.testBit_and, hi, h3]; rfl
  rw [h, Nat.zero_testBit] at h4; cases h4
def tileL (l : List Int) (a m : Nat) : List Nat := tlS l a (ord l + 1) a 1 m
theorem tlS_len (l : List Int) (a : Nat) : ∀ f u b m, 1 ≤ m → (tlS l a f u b m).length ≤ m := by
  intro f
  induction f with
  | zero => intro u b m _; simp [tlS]
  | succ f ih =>
    intro u b m hm
    unfold tlS
    split
    · simpa using hm
    · have key : ∀ (L : List Nat) (oS : List Nat), oS.length ≤ m → (L.foldl (fun (o : List Nat) (x : Nat) => if o.length < m ∧ shiftF l a (dF l u x) &&& u = 0 then o ++ tlS l a f (u ||| shiftF l a (dF l u x)) (b ||| 2 ^ dF l u x) (m - o.length) else o) oS).length ≤ m := by
        intro L
        induction L with
        | nil => intro oS h; exact h
        | cons x L ih2 =>
          intro oS h
          simp only [List.foldl_cons]
          refine ih2 _ ?_
          split
          · next h3 => have := ih (u ||| shiftF l a (dF l u x)) (b ||| 2 ^ dF l u x) (m - oS.length) (by omega); rw [List.length_append]; omega
          · exact h
      exact key _ _ (by simp)
/-- the first tile -/
def ftB (l : List Int) (a : Int) : Bool := isOneB l a && !(tileL l a.toNat 1).isEmpty
def ftV (l : List Int) (a : Int) : Int := if ftB l a then (((tileL l a.toNat 1).headD 0 : Nat) : Int) else 0
theorem ft_no {l : List Int} {a : Int} (h : isOneB l a = false) : ftB l a = false ∧ ftV l a = 0 := by
  have e : ftB l a = false := by unfold ftB; rw [h]; rfl
  exact ⟨e, by unfold ftV; rw [e]; rfl⟩
theorem ft_nil {l : List Int} {n : Nat} (h : tileL l n 1 = []) : ftB l n = false ∧ ftV l n = 0 := by
  have e : ftB l n = false := by unfold ftB; rw [show ((n : Int)).toNat = n from rfl, h]; simp
  exact ⟨e, by unfold ftV; rw [e]; rfl⟩
theorem ft_yes {l : List Int} {n : Nat} (h1 : isOneB l n = true) {x : Nat} {L : List Nat} (h : tileL l n 1 = x :: L) : ftB l n = true ∧ ftV l n = (x : Int) := by
  have e : ftB l n = true := by unfold ftB; rw [h1, show ((n : Int)).toNat = n from rfl, h]; rfl
  exact ⟨e, by unfold ftV; rw [e, show ((n : Int)).toNat = n from rfl, h]; rfl⟩
end Go.Zz

/- Marks in kept counts. -/
namespace Go.Zz
open Go.RowKit Go.Proofs
set_option maxHeartbeats 400000

theorem Blk.grown {w w' : World} {b : Nat} {T : TypeId} {cs : Array Value} {row : Option Nat} (h : Blk w b T cs) (hg : w.grownBy w' row) (hne : ∀ k, row = some k → k ≠ b) : Blk w' b T cs := by
  unfold Blk
  rw [hg.block b h.lt (by
    cases row with
    | none => simp
    | some k => simp; exact fun e => hne k rfl (by first | exact e | exact e.symm))]
  exact h
/-- the slices of a value of type Kept lie below a block -/
def Below2 (c : Value) (top : Nat) : Prop := ∀ v n u, c = .agg #[v, n, u] → ∀ k, (v.ownBlock = some k ∨ u.ownBlock = some k) → k < top
theorem OwnK2.below {w0 w : World} {c : Value} {l m : List Int} {n : Int} (h : OwnK2 w0 w c l n m) : Below2 c w.heap.size := by
  obtain ⟨v, u, rfl, hv, hu, -⟩ := h
  intro v' n' u' e k hk
  simp at e
  obtain ⟨rfl, rfl, rfl⟩ := e
  rcases hk with hk | hk
  · exact (hv.blk k hk).2
  · exact (hu.blk k hk).2
theorem OwnK2.kept {w0 w w' : World} {c : Value} {l m : List Int} {n : Int} {row : Option Nat} (h : OwnK2 w0 w c l n m) (hg : w.grownBy w' row) (hr : ∀ k, row = some k → k < w0.heap.size) : OwnK2 w0 w' c l n m := by
  obtain ⟨v, u, rfl, hv, hu, hd⟩ := h
  have key : ∀ {x : Value} {ll : List Int}, Own 3 w0 w x ll → Own 3 w0 w' x ll := fun {x ll} hx => hx.kept hg (by
    cases hq : x.ownBlock with
    | none => exact Or.inl rfl
    | some k => exact Or.inr fun e => by have := hr k e.symm; have := (hx.blk k hq).1; omega)
  exact ⟨v, u, rfl, key hv, key hu, hd⟩
end Go.Zz

/- Claims: equal ones, marks in what they hold. -/
namespace Go.Zz
open Go.RowKit Go.Proofs
set_option maxHeartbeats 2000000

/-- two values own no block together -/
def Apart (x y : Value) : Prop := ∀ k, x.ownBlock = some k → y.ownBlock ≠ some k
theorem Apart.symm {x y : Value} (h : Apart x y) : Apart y x := fun k hk e => h k e hk
theorem Apart.or {x y : Value} (h : Apart x y) : x.ownBlock = none ∨ x.ownBlock ≠ y.ownBlock := by
  cases hx : x.ownBlock with
  | none => exact Or.inl rfl
  | some k => exact Or.inr fun e => h k hx e.symm
theorem Apart.nil_left (y : Value) : Apart (.slice none 0 0) y := fun k hk => by cases hk
theorem Apart.nil_right (x : Value) : Apart x (.slice none 0 0) := fun k _ h => by cases h
theorem apart_of {TI : TypeId} {a b c d : World} {u v : Value} {l m : List Int} (h : Own TI a b u l) (k : Own TI c d v m) (hs : b.heap.size ≤ c.heap.size) : Apart u v := fun i hi e => by
  have h1 := (h.blk i hi).2
  have h2 := (k.blk i e).1
  omega
/-- four slices that are owned, apart from each other -/
structure Own4 (w0 w : World) (v1 v2 v3 v4 : Value) (g o t q : List Int) : Prop where
  h1 : Own 3 w0 w v1 g
  h2 : Own 3 w0 w v2 o
  h3 : Own 3 w0 w v3 t
  h4 : Own 3 w0 w v4 q
  d12 : Apart v1 v2
  d13 : Apart v1 v3
  d14 : Apart v1 v4
  d23 : Apart v2 v3
  d24 : Apart v2 v4
  d34 : Apart v3 v4
theorem Own4.ext {w0 w w' : World} {v1 v2 v3 v4 : Value} {g o t q : List Int} (h : Own4 w0 w v1 v2 v3 v4 g o t q) (hE : Ext w w') : Own4 w0 w' v1 v2 v3 v4 g o t q :=
  ⟨h.h1.ext hE, h.h2.ext hE, h.h3.ext hE, h.h4.ext hE, h.d12, h.d13, h.d14, h.d23, h.d24, h.d34⟩
theorem Own4.mono {w0 w1 w : World} {v1 v2 v3 v4 : Value} {g o t q : List Int} (h : Own4 w1 w v1 v2 v3 v4 g o t q) (hE : Ext w0 w1) : Own4 w0 w v1 v2 v3 v4 g o t q :=
  ⟨h.h1.mono hE, h.h2.mono hE, h.h3.mono hE, h.h4.mono hE, h.d12, h.d13, h.d14, h.d23, h.d24, h.d34⟩
/-- the slices of a claim read as lists -/
structure Ints4 (w : World) (v1 v2 v3 v4 : Value) (g o t q : List Int) : Prop where
  g : Ints w v1 g
  o : Ints w v2 o
  t : Ints w v3 t
  q : Ints w v4 q
theorem Ints4.ext {w w' : World} {v1 v2 v3 v4 : Value} {g o t q : List Int} (h : Ints4 w v1 v2 v3 v4 g o t q) (hE : Ext w w') : Ints4 w' v1 v2 v3 v4 g o t q :=
  ⟨h.g.ext hE, h.o.ext hE, h.t.ext hE, h.q.ext hE⟩
theorem Own4.ints {w0 w : World} {v1 v2 v3 v4 : Value} {g o t q : List Int} (h : Own4 w0 w v1 v2 v3 v4 g o t q) : Ints4 w v1 v2 v3 v4 g o t q := ⟨h.h1.ints, h.h2.ints, h.h3.ints, h.h4.ints⟩
/-- the slices lie below a block -/
def Below4 (v1 v2 v3 v4 : Value) (top : Nat) : Prop := ∀ k, (v1.ownBlock = some k ∨ v2.ownBlock = some k ∨ v3.ownBlock = some k ∨ v4.ownBlock = some k) → k < top
theorem Own4.below {w0 w : World} {v1 v2 v3 v4 : Value} {g o t q : List Int} (h : Own4 w0 w v1 v2 v3 v4 g o t q) : Below4 v1 v2 v3 v4 w.heap.size := by
  rintro k (hk | hk | hk | hk)
  · exact (h.h1.blk k hk).2
  · exact (h.h2.blk k hk).2
  · exact (h.h3.blk k hk).2
  · exact (h.h4.blk k hk).2
theorem Own.kept_low {TI : TypeId} {w0 w w' : World} {v : Value} {l : List Int} {row : Option Nat} (h : Own TI w0 w v l) (hg : w.grownBy w' row) (hr : ∀ k, row = some k → k < w0.heap.size) : Own TI w0 w' v l :=
  h.kept hg (by
    cases hq : v.ownBlock with
    | none => exact Or.inl rfl
    | some k => exact Or.inr fun e => by have := hr k e.symm; have := (h.blk k hq).1; omega)
theorem Own.kept_high {TI : TypeId} {w0 w w' : World} {v : Value} {l : List Int} {row : Option Nat} (h : Own TI w0 w v l) (hg : w.grownBy w' row) (hr : ∀ k, row = some k → v.ownBlock ≠ some k) : Own TI w0 w' v l :=
  h.kept hg (by
    cases hq : v.ownBlock with
    | none => exact Or.inl rfl
    | some k => exact Or.inr fun e => hr k e.symm hq)
theorem Own4.kept {w0 w w' : World} {v1 v2 v3 v4 : Value} {g o t q : List Int} {row : Option Nat} (h : Own4 w0 w v1 v2 v3 v4 g o t q) (hg : w.grownBy w' row) (hr : ∀ k, row = some k → k < w0.heap.size) : Own4 w0 w' v1 v2 v3 v4 g o t q :=
  ⟨h.h1.kept_low hg hr, h.h2.kept_low hg hr, h.h3.kept_low hg hr, h.h4.kept_low hg hr, h.d12, h.d13, h.d14, h.d23, h.d24, h.d34⟩
/-- a value of type Claim -/
def CV (k : Int) (v1 v2 : Value) (a b s p : Int) (v3 v4 : Value) (n : Int) : Value := .agg #[.int .i64 k, v1, v2, .int .i64 a, .int .i64 b, .int .i64 s, .int .i64 p, v3, v4, .int .i64 n]

end Go.Zz

/- Cosets of small doubling. -/
namespace Go.Zz
open Go.RowKit Go.Proofs
set_option maxHeartbeats 400000

def scD (l : List Int) (a : Int) : Int := if smallF l a then (sumF l a.toNat (oppF l a.toNat) : Int) else 0
def scS (l : List Int) (a : Int) : Int := if smallF l a then (sumF l a.toNat (sumF l a.toNat (oppF l a.toNat)) : Int) else 0
theorem sc_no {l : List Int} {a : Int} (h : smallF l a = false) : scD l a = 0 ∧ scS l a = 0 := by unfold scD scS; rw [h]; exact ⟨rfl, rfl⟩
theorem sc_yes {l : List Int} {n : Nat} (h : smallF l n = true) : scD l n = (sumF l n (oppF l n) : Int) ∧ scS l n = (sumF l n (sumF l n (oppF l n)) : Int) := by unfold scD scS; rw [h]; exact ⟨rfl, rfl⟩
theorem smallF_nat {l : List Int} {a : Int} (h : smallF l a = true) : ∃ n : Nat, a = n ∧ n < 2 ^ ord l ∧ n < 2 ^ 24 ∧ isGrp l = true ∧ isSetB l a = true := by
  unfold smallF at h
  have h1 := (Bool.and_eq_true_iff.1 (Bool.and_eq_true_iff.1 h).1).1
  obtain ⟨n, rfl, a, b, c⟩ := isSetB_nat h1
  exact ⟨n, rfl, a, b, c, h1⟩
end Go.Zz

/- Claims of cosets. -/
namespace Go.Zz
open Go.RowKit Go.Proofs
set_option maxHeartbeats 2000000
set_option maxRecDepth 20000

end Go.Zz

/- Claims of sums: stabilizers, pairs of Kneser's bound. -/
namespace Go.Zz
open Go.RowKit Go.Proofs
set_option maxHeartbeats 2000000
set_option maxRecDepth 20000

/-- the elements below k that shift a set onto itself -/
def stabTo (l : List Int) (a k : Nat) : Nat := bset ((List.range k).filter (fun x => decide (shiftF l a x = a)))
theorem stabTo_yes {l : List Int} {a k : Nat} (h : shiftF l a k = a) : stabTo l a (k + 1) = stabTo l a k ||| 2 ^ k := by
  unfold stabTo; rw [List.range_succ, List.filter_append]; simp only [List.filter_cons, List.filter_nil, h, decide_true, if_true]; exact bset_snoc _ _
theorem stabTo_no {l : List Int} {a k : Nat} (h : ¬ shiftF l a k = a) : stabTo l a (k + 1) = stabTo l a k := by
  unfold stabTo; rw [List.range_succ, List.filter_append]; simp [h]
theorem stabTo_lt (l : List Int) (a k : Nat) : stabTo l a k < 2 ^ k := bset_lt fun _ hx => List.mem_range.1 (List.mem_filter.1 hx).1
def stabF (l : List Int) (a : Nat) : Nat := stabTo l a (ord l)
theorem stabF_lt (l : List Int) (a : Nat) : stabF l a < 2 ^ ord l := stabTo_lt l a _
def fullB (l : List Int) (a b : Int) : Bool := isSetB l a && isSetB l b && !(a == 0) && !(b == 0)
theorem fullB_set {l : List Int} {a b : Int} (h : (isSetB l a && isSetB l b) = false) : fullB l a b = false := by unfold fullB; rw [h]; rfl
theorem fullB_nat {l : List Int} {a b : Int} (h : fullB l a b = true) : ∃ m n : Nat, a = m ∧ b = n ∧ m ≠ 0 ∧ n ≠ 0 ∧ m < 2 ^ ord l ∧ n < 2 ^ ord l ∧ m < 2 ^ 24 ∧ n < 2 ^ 24 ∧ isGrp l = true ∧ isSetB l a = true ∧ isSetB l b = true := by
  unfold fullB at h
  simp only [Bool.and_eq_true, Bool.not_eq_true', beq_eq_false_iff_ne] at h
  obtain ⟨⟨⟨h1, h2⟩, h3⟩, h4⟩ := h
  obtain ⟨m, rfl, a1, a2, hg⟩ := isSetB_nat h1
  obtain ⟨n, rfl, b1, b2, -⟩ := isSetB_nat h2
  exact ⟨m, n, rfl, rfl, by omega, by omega, a1, b1, a2, b2, hg, h1, h2⟩
theorem cnt_sum_ge {l : List Int} (h : isGrp l = true) {a b : Nat} (ha : a ≠ 0) (ha2 : a < 2 ^ ord l) (hb : b < 2 ^ ord l) : cnt b ≤ cnt (sumF l a b) := by
  obtain ⟨x, hx⟩ := bit_of_pos ha
  rw [← cnt_shift h hb x]
  refine cnt_mono fun i hi => ?_
  obtain ⟨y, hy, by_, rfl⟩ := testBit_shiftF.1 hi
  exact testBit_sumF.2 ⟨x, y, Nat.lt_of_lt_of_le (bit_lt ha2 hx) (ord_bd h).2, hx, hy, by_, rfl⟩

/-- the bound of Kneser, as the reference writes it -/
def knF (l : List Int) (a b : Nat) : Int := (cnt (sumF l a (stabF l (sumF l a b))) : Int) + cnt (sumF l b (stabF l (sumF l a b))) - cnt (stabF l (sumF l a b))
theorem knF_pos {l : List Int} (h : isGrp l = true) {a b : Nat} (ha : a ≠ 0) (ha2 : a < 2 ^ ord l) : 0 ≤ knF l a b := by
  have := cnt_sum_ge h ha ha2 (stabF_lt l (sumF l a b))
  unfold knF; omega
def kpH (l : List Int) (a b : Nat) : Nat := stabF l (sumF l a b)
def csK (l : List Int) (a b : Int) : Int := if fullB l a b then 1 else 0
def csA (l : List Int) (a b : Int) : Int := if fullB l a b then a else 0
def csB (l : List Int) (a b : Int) : Int := if fullB l a b then b else 0
def csS (l : List Int) (a b : Int) : Int := if fullB l a b then (sumF l a.toNat b.toNat : Int) else 0
def csP (l : List Int) (a b : Int) : Int := if fullB l a b then (kpH l a.toNat b.toNat : Int) else 0
def csG (l : List Int) (a b : Int) : List Int := if fullB l a b then l else []
theorem cs_no {l : List Int} {a b : Int} (h : fullB l a b = false) : csK l a b = 0 ∧ csA l a b = 0 ∧ csB l a b = 0 ∧ csS l a b = 0 ∧ csP l a b = 0 ∧ csG l a b = [] := by
  unfold csK csA csB csS csP csG; rw [h]; exact ⟨rfl, rfl, rfl, rfl, rfl, rfl⟩
theorem cs_yes {l : List Int} {a b : Nat} (h : fullB l a b = true) : csK l a b = 1 ∧ csA l a b = a ∧ csB l a b = b ∧ csS l a b = (sumF l a b : Int) ∧ csP l a b = (kpH l a b : Int) ∧ csG l a b = l := by
  unfold csK csA csB csS csP csG; rw [h]; exact ⟨rfl, rfl, rfl, rfl, rfl, rfl⟩
end Go.Zz

/- Progressions and their differences. -/
namespace Go.Zz
open Go.RowKit Go.Proofs
set_option maxHeartbeats 1000000

/-- the terms of a progression -/
def prCur (l : List Int) (s d : Nat) : Nat → Nat
  | 0 => s
  | k + 1 => addF l (prCur l s d k) d
def prSet (l : List Int) (s d n : Nat) : Nat := bset ((List.range n).map (prCur l s d))
theorem prSet_succ (l : List Int) (s d k : Nat) : prSet l s d (k + 1) = prSet l s d k ||| 2 ^ prCur l s d k := by
  unfold prSet; rw [List.range_succ, List.map_append]; exact bset_snoc _ _
theorem prCur_bd {l : List Int} (h : isGrp l = true) {s : Nat} (hs : s < 24) (d : Nat) : ∀ k, prCur l s d k < 24
  | 0 => hs
  | _ + 1 => addF_bd h _ _
theorem prSet_bd {l : List Int} (h : isGrp l = true) {s : Nat} (hs : s < 24) (d n : Nat) : prSet l s d n < 2 ^ 24 := by
  refine bset_lt fun x hx => ?_
  obtain ⟨k, _, rfl⟩ := List.mem_map.1 hx
  exact prCur_bd h hs d k
/-- whether a set is a progression by a step, from one of the elements of a list on -/
def diffL (l : List Int) (a d : Nat) (L : List Nat) : Bool := L.any (fun x => decide (prSet l x d (cnt a) = a))
def diffB (l : List Int) (a d : Nat) : Bool := diffL l a d (elems a)
def difTo (l : List Int) (a k : Nat) : List Nat := (List.range k).filter (diffB l a)
theorem difTo_yes {l : List Int} {a k : Nat} (h : diffB l a k = true) : difTo l a (k + 1) = difTo l a k ++ [k] := by
  unfold difTo; rw [List.range_succ, List.filter_append]; simp [h]
theorem difTo_no {l : List Int} {a k : Nat} (h : diffB l a k = false) : difTo l a (k + 1) = difTo l a k := by
  unfold difTo; rw [List.range_succ, List.filter_append]; simp [h]
theorem difTo_len (l : List Int) (a k : Nat) : (difTo l a k).length ≤ k := by
  unfold difTo; exact Nat.le_trans (List.length_filter_le _ _) (by simp)
def difF (l : List Int) (a : Int) : List Int := if isOneB l a then castL (difTo l a.toNat (ord l)) else []
theorem difF_no {l : List Int} {a : Int} (h : isOneB l a = false) : difF l a = [] := by unfold difF; rw [h]; rfl
theorem difF_yes {l : List Int} {n : Nat} (h : isOneB l n = true) : difF l n = castL (difTo l n (ord l)) := by unfold difF; rw [if_pos h]; rfl
theorem diffL_take {l : List Int} {a d : Nat} {L : List Nat} (h : ∀ j, j < L.length → prSet l (nthN L j) d (cnt a) ≠ a) : diffL l a d L = false := by
  unfold diffL
  rw [← Bool.not_eq_true, List.any_eq_true]
  rintro ⟨x, hx, hd⟩
  obtain ⟨j, hj, rfl⟩ := List.getElem_of_mem hx
  have := h j hj
  unfold nthN at this
  rw [List.getD_eq_getElem?_getD, List.getElem?_eq_getElem hj] at this
  exact this (of_decide_eq_true hd)
theorem diffL_at {l : List Int} {a d : Nat} {L : List Nat} {j : Nat} (hj : j < L.length) (h : prSet l (nthN L j) d (cnt a) = a) : diffL l a d L = true := by
  unfold diffL; rw [List.any_eq_true]; exact ⟨_, nthN_mem hj, decide_eq_true h⟩
end Go.Zz

/- Cosets, boxes, sets of Sidon. No program is named here. -/
namespace Go.Zz

theorem shiftF_shift {l : List Int} (h : isGrp l = true) (a x y : Nat) : shiftF l (shiftF l a x) y = shiftF l a (addF l y x) := by
  have ho := isGrp_ords h
  apply Nat.eq_of_testBit_eq
  intro z
  apply bool_eq_of
  rw [testBit_shiftF, testBit_shiftF]
  constructor
  · rintro ⟨u, _, hu, rfl⟩
    obtain ⟨t, ht, hb, rfl⟩ := testBit_shiftF.1 hu
    exact ⟨t, ht, hb, addF_assoc l ho y x t⟩
  · rintro ⟨t, ht, hb, rfl⟩
    exact ⟨addF l x t, addF_bd h x t, testBit_shiftF.2 ⟨t, ht, hb, rfl⟩, (addF_assoc l ho y x t).symm⟩
theorem shiftF_none {l : List Int} (h : isGrp l = true) {a : Nat} (ha : a < 2 ^ ord l) : shiftF l a 0 = a := by
  apply Nat.eq_of_testBit_eq
  intro i
  apply bool_eq_of
  rw [testBit_shiftF]
  constructor
  · rintro ⟨y, _, hy, e⟩
    rw [addF_zero l (isGrp_ords h) y (bit_lt ha hy)] at e
    subst e; exact hy
  · intro hi
    have := bit_lt ha hi
    exact ⟨i, Nat.lt_of_lt_of_le this (ord_bd h).2, hi, addF_zero l (isGrp_ords h) i this⟩
/-- a coset is a shift of a subgroup, by its lowest element -/
theorem coset_iff {l : List Int} (h : isGrp l = true) {n : Nat} (hn : n < 2 ^ ord l) : shiftF l (baseF l n) (lowN n) = n ↔ baseF l n = shiftF l n (negF l (lowN n)) := by
  have ho := isGrp_ords h
  have e1 : addF l (negF l (lowN n)) (lowN n) = 0 := by rw [addF_comm]; exact addF_neg l ho _
  constructor
  · intro e
    have : shiftF l (shiftF l (baseF l n) (lowN n)) (negF l (lowN n)) = shiftF l n (negF l (lowN n)) := by rw [e]
    rw [shiftF_shift h, e1, shiftF_none h (show baseF l n < 2 ^ ord l from genF_lt h _)] at this
    exact this
  · intro e
    rw [e, shiftF_shift h, addF_neg l ho, shiftF_none h hn]
def cstB (l : List Int) (a : Int) : Bool := isOneB l a && decide (hullF l a = a)
theorem cstB_no {l : List Int} {a : Int} (h : isOneB l a = false) : cstB l a = false := by unfold cstB; rw [h]; rfl
theorem cstB_hull {l : List Int} {n : Nat} (h : isOneB l n = true) : cstB l n = (hullF l n == (n : Int)) := by unfold cstB; rw [h]; rfl
theorem cstB_sub {l : List Int} {n : Nat} (h : isOneB l n = true) : cstB l n = subB l (shiftF l n (negF l (lowN n)) : Nat) := by
  obtain ⟨n', e, h0, h1, h2, hg⟩ := isOneB_nat h
  obtain rfl : n = n' := by omega
  have hs : isSetB l (shiftF l n (negF l (lowN n)) : Nat) = true := isSetB_of hg (shiftF_lt (isGrp_ords hg) _ _)
  rw [cstB_hull h, hullF_yes h, subB_yes hs]
  have := coset_iff hg h1
  unfold baseF at this ⊢
  by_cases e : genF l (shiftF l n (negF l (lowN n))) = shiftF l n (negF l (lowN n))
  · rw [this.2 e, e]; simp
  · have e' : ¬ shiftF l (genF l (shiftF l n (negF l (lowN n)))) (lowN n) = n := fun q => e (this.1 q)
    have i1 : ((shiftF l (genF l (shiftF l n (negF l (lowN n)))) (lowN n) : Int) == (n : Int)) = false := by simp; omega
    have i2 : ((genF l (shiftF l n (negF l (lowN n))) : Int) == (shiftF l n (negF l (lowN n)) : Int)) = false := by simp; omega
    rw [i1, i2]

/-! ### boxes -/
def bxS (l : List Int) (n m d e : Nat) : Nat := sumF l (prSet l 0 d m) (prSet l 0 e (cnt n / m))
def bxAt (l : List Int) (n m d e : Nat) : Bool := decide (cnt (bxS l n m d e) = cnt n) && (List.range (ord l)).any (fun x => decide (shiftF l (bxS l n m d e) x = n))
def bxM (l : List Int) (n m : Nat) : Bool := decide (cnt n % m = 0) && (List.range (ord l)).any (fun d => (List.range (ord l)).any (fun e => bxAt l n m d e))
def bxN (l : List Int) (n : Nat) : Bool := (List.range (cnt n + 1)).any (fun m => decide (1 ≤ m ∧ m * m ≤ cnt n) && bxM l n m)
def boxB (l : List Int) (a : Int) : Bool := isOneB l a && bxN l a.toNat
theorem boxB_no {l : List Int} {a : Int} (h : isOneB l a = false) : boxB l a = false := by unfold boxB; rw [h]; rfl
theorem boxB_yes {l : List Int} {n : Nat} (h : isOneB l n = true) : boxB l n = bxN l n := by unfold boxB; rw [h]; rfl
theorem bxAt_cnt {l : List Int} {n m d e : Nat} (h : ¬ cnt (bxS l n m d e) = cnt n) : bxAt l n m d e = false := by unfold bxAt; simp [h]
theorem bxAt_no {l : List Int} {n m d e : Nat} (h : ∀ x, x < ord l → ¬ shiftF l (bxS l n m d e) x = n) : bxAt l n m d e = false := by
  unfold bxAt
  have : (List.range (ord l)).any (fun x => decide (shiftF l (bxS l n m d e) x = n)) = false := by
    rw [← Bool.not_eq_true, List.any_eq_true]
    rintro ⟨x, hx, hd⟩
    exact h x (List.mem_range.1 hx) (of_decide_eq_true hd)
  rw [this]; simp
theorem bxM_mod {l : List Int} {n m : Nat} (h : ¬ cnt n % m = 0) : bxM l n m = false := by unfold bxM; simp [h]
theorem bxM_no {l : List Int} {n m : Nat} (h : ∀ d, d < ord l → ∀ e, e < ord l → bxAt l n m d e = false) : bxM l n m = false := by
  unfold bxM
  have : (List.range (ord l)).any (fun d => (List.range (ord l)).any (fun e => bxAt l n m d e)) = false := by
    rw [← Bool.not_eq_true, List.any_eq_true]
    rintro ⟨d, hd, hx⟩
    rw [List.any_eq_true] at hx
    obtain ⟨e, he, hy⟩ := hx
    rw [h d (List.mem_range.1 hd) e (List.mem_range.1 he)] at hy; cases hy
  rw [this]; simp
theorem bxN_no {l : List Int} {n k : Nat} (h : ∀ m, 1 ≤ m → m < k → bxM l n m = false) (hk : ¬ k * k ≤ cnt n) : bxN l n = false := by
  unfold bxN
  rw [← Bool.not_eq_true, List.any_eq_true]
  rintro ⟨m, _, hx⟩
  rw [Bool.and_eq_true, decide_eq_true_eq] at hx
  obtain ⟨⟨h1, h2⟩, h3⟩ := hx
  rcases Nat.lt_or_ge m k with hlt | hge
  · rw [h m h1 hlt] at h3; cases h3
  · have := Nat.mul_le_mul hge hge; omega
theorem bxN_hit {l : List Int} {n m d e x : Nat} (h1 : 1 ≤ m) (h2 : m * m ≤ cnt n) (h3 : cnt n % m = 0) (hd : d < ord l) (he : e < ord l) (hx : x < ord l) (h4 : cnt (bxS l n m d e) = cnt n) (h5 : shiftF l (bxS l n m d e) x = n) : bxN l n = true := by
  unfold bxN bxM bxAt
  rw [List.any_eq_true]
  refine ⟨m, List.mem_range.2 (by have := Nat.le_mul_of_pos_left m h1; omega), ?_⟩
  rw [Bool.and_eq_true, Bool.and_eq_true, decide_eq_true_eq, decide_eq_true_eq]
  refine ⟨⟨h1, h2⟩, h3, ?_⟩
  rw [List.any_eq_true]
  refine ⟨d, List.mem_range.2 hd, ?_⟩
  rw [List.any_eq_true]
  refine ⟨e, List.mem_range.2 he, ?_⟩
  rw [Bool.and_eq_true, decide_eq_true_eq, List.any_eq_true]
  exact ⟨h4, x, List.mem_range.2 hx, decide_eq_true h5⟩

/-! ### sets of Sidon -/
def Sid (l : List Int) (L : List Nat) : Prop := ∀ i j k m, i ≤ j → j < L.length → k ≤ m → m < L.length → addF l (nthN L i) (nthN L j) = addF l (nthN L k) (nthN L m) → i = k ∧ j = m
open Classical in
noncomputable def sidL (l : List Int) (L : List Nat) : Bool := decide (Sid l L)
noncomputable def sidB (l : List Int) (a : Int) : Bool := isSetB l a && sidL l (elems a.toNat)
theorem sidB_no {l : List Int} {a : Int} (h : isSetB l a = false) : sidB l a = false := by unfold sidB; rw [h]; rfl
theorem sidB_yes {l : List Int} {n : Nat} (h : isSetB l n = true) : sidB l n = sidL l (elems n) := by unfold sidB; rw [h]; rfl
open Classical in
theorem sidL_t {l : List Int} {L : List Nat} (h : Sid l L) : sidL l L = true := by unfold sidL; exact decide_eq_true h
open Classical in
theorem sidL_f {l : List Int} {L : List Nat} (h : ¬ Sid l L) : sidL l L = false := by unfold sidL; exact decide_eq_false h
/-- the pair (p, q) comes before (i, j) -/
def Bef (i j p q : Nat) : Prop := p < i ∨ (p = i ∧ q < j)
/-- the sums of the pairs before (i, j) are apart, and they are the bits of a number -/
def SidTo (l : List Int) (L : List Nat) (i j seen : Nat) : Prop :=
  (∀ p q r t, p ≤ q → q < L.length → r ≤ t → t < L.length → Bef i j p q → Bef i j r t → addF l (nthN L p) (nthN L q) = addF l (nthN L r) (nthN L t) → p = r ∧ q = t) ∧
    (∀ z, seen.testBit z = true ↔ ∃ p q, p ≤ q ∧ q < L.length ∧ Bef i j p q ∧ addF l (nthN L p) (nthN L q) = z)
theorem SidTo.start (l : List Int) (L : List Nat) : SidTo l L 0 0 0 := by
  refine ⟨fun p q r t _ _ _ _ h => ?_, fun z => ?_⟩
  · rcases h with h | ⟨_, h⟩ <;> omega
  · rw [Nat.zero_testBit]
    constructor
    · intro h; cases h
    · rintro ⟨p, q, _, _, h, _⟩
      rcases h with h | ⟨_, h⟩ <;> omega
theorem SidTo.hit {l : List Int} {L : List Nat} {i j seen : Nat} (h : SidTo l L i j seen) (hij : i ≤ j) (hj : j < L.length) (hs : seen.testBit (addF l (nthN L i) (nthN L j)) = true) : ¬ Sid l L := by
  intro hS
  obtain ⟨p, q, hpq, hq, hb, e⟩ := (h.2 _).1 hs
  obtain ⟨rfl, rfl⟩ := hS p q i j hpq hq hij hj e
  rcases hb with hb | ⟨_, hb⟩ <;> omega
theorem SidTo.next {l : List Int} {L : List Nat} {i j seen : Nat} (h : SidTo l L i j seen) (hij : i ≤ j) (hj : j < L.length) (hs : seen.testBit (addF l (nthN L i) (nthN L j)) = false) :
    SidTo l L i (j + 1) (seen ||| 2 ^ addF l (nthN L i) (nthN L j)) := by
  have hb : ∀ p q, Bef i (j + 1) p q ↔ (Bef i j p q ∨ (p = i ∧ q = j)) := fun p q => by unfold Bef; omega
  refine ⟨fun p q r t h1 h2 h3 h4 h5 h6 e => ?_, fun z => ?_⟩
  · rcases (hb p q).1 h5 with a | ⟨rfl, rfl⟩ <;> rcases (hb r t).1 h6 with b | ⟨rfl, rfl⟩
    · exact h.1 p q r t h1 h2 h3 h4 a b e
    · have := (h.2 _).2 ⟨p, q, h1, h2, a, e⟩; rw [hs] at this; cases this
    · have := (h.2 _).2 ⟨r, t, h3, h4, b, e.symm⟩; rw [hs] at this; cases this
    · exact ⟨rfl, rfl⟩
  · rw [Nat.testBit_or, Nat.testBit_two_pow, Bool.or_eq_true, decide_eq_true_eq, h.2 z]
    constructor
    · rintro (⟨p, q, h1, h2, h3, h4⟩ | e)
      · exact ⟨p, q, h1, h2, (hb p q).2 (Or.inl h3), h4⟩
      · exact ⟨i, j, hij, hj, (hb i j).2 (Or.inr ⟨rfl, rfl⟩), e⟩
    · rintro ⟨p, q, h1, h2, h3, h4⟩
      rcases (hb p q).1 h3 with a | ⟨rfl, rfl⟩
      · exact Or.inl ⟨p, q, h1, h2, a, h4⟩
      · exact Or.inr h4
theorem SidTo.row {l : List Int} {L : List Nat} {i j seen : Nat} (h : SidTo l L i j seen) (hj : j = L.length) : SidTo l L (i + 1) (i + 1) seen := by
  have hb : ∀ p q, p ≤ q → q < L.length → (Bef (i + 1) (i + 1) p q ↔ Bef i j p q) := fun p q h1 h2 => by unfold Bef; omega
  refine ⟨fun p q r t h1 h2 h3 h4 h5 h6 e => h.1 p q r t h1 h2 h3 h4 ((hb p q h1 h2).1 h5) ((hb r t h3 h4).1 h6) e, fun z => ?_⟩
  rw [h.2 z]
  constructor
  · rintro ⟨p, q, h1, h2, h3, h4⟩; exact ⟨p, q, h1, h2, (hb p q h1 h2).2 h3, h4⟩
  · rintro ⟨p, q, h1, h2, h3, h4⟩; exact ⟨p, q, h1, h2, (hb p q h1 h2).1 h3, h4⟩
theorem SidTo.all {l : List Int} {L : List Nat} {i seen : Nat} (h : SidTo l L i i seen) (hi : i = L.length) : Sid l L := fun p q r t h1 h2 h3 h4 e =>
  h.1 p q r t h1 h2 h3 h4 (by unfold Bef; omega) (by unfold Bef; omega) e
end Go.Zz

/- Plain facts: a number put into a list, the tiles of a search are distinct. No program is named here. -/
namespace Go.Zz

/-- where n is put: behind the last number that is not greater -/
def pkN (L : List Nat) (n : Nat) : Nat → Nat
  | 0 => 0
  | k + 1 => if n < nthN L k then pkN L n k else k + 1
theorem pkN_down {L : List Nat} {n k : Nat} (h : n < nthN L k) : pkN L n (k + 1) = pkN L n k := by rw [pkN, if_pos h]
theorem pkN_stop {L : List Nat} {n k : Nat} (h : ¬ n < nthN L k) : pkN L n (k + 1) = k + 1 := by rw [pkN, if_neg h]
def putAt (L : List Nat) (n k : Nat) : List Nat := L.take k ++ n :: L.drop k
def putN (L : List Nat) (n : Nat) : List Nat := if 0 < pkN L n L.length ∧ nthN L (pkN L n L.length - 1) = n then L else putAt L n (pkN L n L.length)
theorem pkN_le (L : List Nat) (n : Nat) : ∀ k, pkN L n k ≤ k
  | 0 => Nat.le_refl _
  | k + 1 => by
    unfold pkN; split
    · exact Nat.le_succ_of_le (pkN_le L n k)
    · exact Nat.le_refl _
theorem putN_old {L : List Nat} {n k : Nat} (hk : pkN L n L.length = k + 1) (h : nthN L k = n) : putN L n = L := by
  unfold putN; rw [hk, if_pos ⟨by omega, h⟩]
theorem putN_zero {L : List Nat} {n : Nat} (hk : pkN L n L.length = 0) : putN L n = putAt L n 0 := by
  unfold putN; rw [hk, if_neg (by omega)]
theorem putN_new {L : List Nat} {n k : Nat} (hk : pkN L n L.length = k + 1) (h : ¬ nthN L k = n) : putN L n = putAt L n (k + 1) := by
  unfold putN; rw [hk, if_neg (fun e => h e.2)]
theorem putAt_len {L : List Nat} {n k : Nat} (hk : k ≤ L.length) : (putAt L n k).length = L.length + 1 := by
  unfold putAt; rw [List.length_append, List.length_cons, List.length_take, List.length_drop]; omega
theorem mem_putAt {L : List Nat} {n k x : Nat} : x ∈ putAt L n k ↔ x = n ∨ x ∈ L := by
  unfold putAt
  rw [List.mem_append, List.mem_cons]
  have h : x ∈ L ↔ x ∈ L.take k ∨ x ∈ L.drop k := by rw [← List.mem_append, List.take_append_drop]
  rw [h]
  constructor
  · rintro (a | a | a)
    · exact Or.inr (Or.inl a)
    · exact Or.inl a
    · exact Or.inr (Or.inr a)
  · rintro (a | a | a)
    · exact Or.inr (Or.inl a)
    · exact Or.inl a
    · exact Or.inr (Or.inr a)
theorem putN_cases (L : List Nat) (n : Nat) : (putN L n = L ∧ n ∈ L) ∨ putN L n = putAt L n (pkN L n L.length) := by
  unfold putN
  split
  · next h =>
    refine Or.inl ⟨rfl, ?_⟩
    have hle := pkN_le L n L.length
    have := nthN_mem (L := L) (k := pkN L n L.length - 1) (by omega)
    rwa [h.2] at this
  · exact Or.inr rfl
theorem mem_putN {L : List Nat} {n x : Nat} : x ∈ putN L n ↔ x = n ∨ x ∈ L := by
  rcases putN_cases L n with ⟨e, h⟩ | e
  · rw [e]
    constructor
    · exact Or.inr
    · rintro (rfl | a)
      · exact h
      · exact a
  · rw [e]; exact mem_putAt
theorem putN_len_new {L : List Nat} {n : Nat} (h : n ∉ L) : (putN L n).length = L.length + 1 := by
  rcases putN_cases L n with ⟨-, h2⟩ | e
  · exact absurd h2 h
  · rw [e]; exact putAt_len (pkN_le _ _ _)
theorem putN_len (L : List Nat) (n : Nat) : (putN L n).length ≤ L.length + 1 := by
  rcases putN_cases L n with ⟨e, -⟩ | e
  · rw [e]; omega
  · rw [e, putAt_len (pkN_le _ _ _)]; exact Nat.le_refl _
/-- the first k numbers of a list, put one by one -/
def putTo (T : List Nat) : Nat → List Nat
  | 0 => []
  | k + 1 => putN (putTo T k) (nthN T k)
theorem putTo_len (T : List Nat) : ∀ k, (putTo T k).length ≤ k
  | 0 => Nat.le_refl _
  | k + 1 => by have := putTo_len T k; have := putN_len (putTo T k) (nthN T k); unfold putTo; omega
theorem putTo_nodup {T : List Nat} (h : T.Nodup) : ∀ k, k ≤ T.length → (putTo T k).length = k ∧ ∀ x ∈ putTo T k, x ∈ T.take k
  | 0, _ => ⟨rfl, by simp [putTo]⟩
  | k + 1, hk => by
    obtain ⟨h1, h2⟩ := putTo_nodup h k (by omega)
    have hn : nthN T k ∉ putTo T k := fun e => by
      have := h2 _ e
      rw [← List.take_append_drop k T, List.nodup_append] at h
      have h4 : nthN T k ∈ T.drop k := by
        have e2 : nthN T k = T[k]'(by omega) := by simp [nthN, List.getD, show k < T.length by omega]
        rw [List.drop_eq_getElem_cons (by omega), e2]; exact List.mem_cons_self
      exact h.2.2 _ this _ h4 rfl
    refine ⟨by unfold putTo; rw [putN_len_new hn, h1], fun x hx => ?_⟩
    unfold putTo at hx
    rw [take_nthN T k (by omega), List.mem_append, List.mem_singleton]
    rcases mem_putN.1 hx with rfl | hx
    · exact Or.inr rfl
    · exact Or.inl (h2 x hx)

/-! ### the tiles of a search are distinct -/
/-- what a search from (u, b) leads to -/
def Lead (l : List Int) (a u b y : Nat) : Prop := ∀ d, (b.testBit d = true → y.testBit d = true) ∧ (y.testBit d = true → b.testBit d = true ∨ shiftF l a d &&& u = 0)
theorem and_zero_bit {a b i : Nat} (h : a &&& b = 0) (ha : a.testBit i = true) : b.testBit i = false := by
  cases hb : b.testBit i
  · rfl
  · have : (a &&& b).testBit i = true := by rw [Nat.testBit_and, ha, hb]; rfl
    rw [h, Nat.zero_testBit] at this; cases this
theorem and_zero_sub {a b c : Nat} (h : a &&& (b ||| c) = 0) : a &&& b = 0 := by
  apply Nat.eq_of_testBit_eq
  intro i
  rw [Nat.zero_testBit, Nat.testBit_and]
  cases ha : a.testBit i
  · rfl
  · have := and_zero_bit h ha
    rw [Nat.testBit_or, Bool.or_eq_false_iff] at this
    rw [this.1]; rfl
theorem Lead.back {l : List Int} {a u b D y : Nat} (hz : shiftF l a D &&& u = 0) (h : Lead l a (u ||| shiftF l a D) (b ||| 2 ^ D) y) : Lead l a u b y := fun d => by
  obtain ⟨h1, h2⟩ := h d
  refine ⟨fun hb => h1 (by rw [Nat.testBit_or, hb]; rfl), fun hy => ?_⟩
  rcases h2 hy with h3 | h3
  · rw [Nat.testBit_or, Bool.or_eq_true, Nat.testBit_two_pow] at h3
    rcases h3 with h3 | h3
    · exact Or.inl h3
    · have : D = d := by simpa using h3
      subst this; exact Or.inr hz
  · exact Or.inr (and_zero_sub h3)
theorem tlS_fold {c : Nat → Prop} [DecidablePred c] {G : Nat → Nat → List Nat} {Q : Nat → Nat → Prop} {E : List Nat} {m : Nat} (hG : ∀ x k, x ∈ E → c x → (G x k).Nodup ∧ ∀ y ∈ G x k, Q x y)
    (hQ : ∀ x ∈ E, ∀ x' ∈ E, ∀ y, c x → c x' → Q x y → Q x' y → x = x') :
    ∀ (L pre out : List Nat), (pre ++ L).Nodup → (∀ x ∈ pre ++ L, x ∈ E) → out.Nodup → (∀ y ∈ out, ∃ x ∈ pre, c x ∧ Q x y) →
      (L.foldl (fun (out : List Nat) (x : Nat) => if out.length < m ∧ c x then out ++ G x (m - out.length) else out) out).Nodup ∧ ∀ y ∈ L.foldl (fun (out : List Nat) (x : Nat) => if out.length < m ∧ c x then out ++ G x (m - out.length) else out) out, ∃ x ∈ pre ++ L, c x ∧ Q x y := by
  intro L
  induction L with
  | nil => intro pre out _ _ h3 h4; exact ⟨h3, by simpa using h4⟩
  | cons x L ih =>
    intro pre out h1 h2 h3 h4
    have e : pre ++ x :: L = (pre ++ [x]) ++ L := by simp
    rw [List.foldl_cons, e]
    rw [e] at h1 h2
    refine ih (pre ++ [x]) _ h1 h2 ?_ ?_
    · split
      · next hc =>
        have hx : x ∈ E := h2 x (by simp)
        obtain ⟨g1, g2⟩ := hG x (m - out.length) hx hc.2
        rw [List.nodup_append]
        refine ⟨h3, g1, fun y hy z hz e => ?_⟩
        subst e
        obtain ⟨x', hx', hc', hq⟩ := h4 y hy
        have := hQ x' (h2 x' (by simp [hx'])) x hx y hc' hc.2 hq (g2 y hz)
        subst this
        rw [List.nodup_append] at h1
        have h5 := h1.1
        rw [List.nodup_append] at h5
        exact h5.2.2 _ hx' _ (by simp) rfl
      · exact h3
    · intro y hy
      split at hy
      · next hc =>
        rw [List.mem_append] at hy
        rcases hy with hy | hy
        · obtain ⟨x', hx', hq⟩ := h4 y hy; exact ⟨x', by simp [hx'], hq⟩
        · exact ⟨x, by simp, hc.2, (hG x _ (h2 x (by simp)) hc.2).2 y hy⟩
      · obtain ⟨x', hx', hq⟩ := h4 y hy; exact ⟨x', by simp [hx'], hq⟩
theorem dF_add {l : List Int} (hg : isGrp l = true) {u x : Nat} (hu : lowZ u < ord l) : addF l (dF l u x) x = lowZ u := by
  unfold dF
  rw [addF_assoc l (isGrp_ords hg), addF_comm l (negF l x) x, addF_neg l (isGrp_ords hg), addF_comm l, addF_zero l (isGrp_ords hg) _ hu]
theorem low_free {l : List Int} {u : Nat} (hu : u < 2 ^ ord l) (ho : ord l ≤ 24) (h : u ≠ fullN l) : lowZ u < ord l ∧ u.testBit (lowZ u) = false := by
  have hex : ∃ e, u.testBit e = false ∧ e < ord l := Classical.byContradiction fun hn => h (not_full hu (e := ord l) (fun j hj => Classical.byContradiction fun hb => hn ⟨j, by simpa using hb, hj⟩) (Nat.le_refl _))
  have key : ∀ n, (∃ e, e < n ∧ u.testBit e = false) → ∃ e, e < n ∧ u.testBit e = false ∧ ∀ j, j < e → u.testBit j = true := by
    intro n
    induction n with
    | zero => rintro ⟨e, he, _⟩; omega
    | succ n ih =>
      rintro ⟨e, he, hb⟩
      by_cases hc : ∃ e, e < n ∧ u.testBit e = false
      · obtain ⟨e', h1, h2⟩ := ih hc; exact ⟨e', by omega, h2⟩
      · have e0 : e = n := Classical.byContradiction fun hn => hc ⟨e, by omega, hb⟩
        subst e0
        exact ⟨e, by omega, hb, fun j hj => Classical.byContradiction fun hb => hc ⟨j, hj, by simpa using hb⟩⟩
  obtain ⟨e, he, hb⟩ := hex
  obtain ⟨e', h1, h2, h3⟩ := key (ord l) ⟨e, hb, he⟩
  rw [lowZ_is h3 h2 (by omega)]; exact ⟨h1, h2⟩
theorem in_shift {l : List Int} (hg : isGrp l = true) {a u x : Nat} (hu : lowZ u < ord l) (hx : x ∈ elems a) : (shiftF l a (dF l u x)).testBit (lowZ u) = true := by
  rw [testBit_shiftF]
  exact ⟨x, (mem_elems.1 hx).1, (mem_elems.1 hx).2, dF_add hg hu⟩
theorem tlS_nodup {l : List Int} (hg : isGrp l = true) {a : Nat} (ha : a < 2 ^ ord l) : ∀ f u b m, u < 2 ^ ord l → (∀ d, b.testBit d = true → Sub (shiftF l a d) u) →
    (tlS l a f u b m).Nodup ∧ ∀ y ∈ tlS l a f u b m, Lead l a u b y := by
  intro f
  induction f with
  | zero => intro u b m _ _; simp [tlS]
  | succ f ih =>
    intro u b m hu hI
    have hob := ord_bd hg
    by_cases hfull : u = fullN l
    · rw [tlS_full hfull]
      refine ⟨by simp, fun y hy => ?_⟩
      rw [List.mem_singleton] at hy
      subst hy
      exact fun d => ⟨id, Or.inl⟩
    · obtain ⟨hl1, hl2⟩ := low_free hu hob.2 hfull
      have hbit : ∀ x ∈ elems a, x < ord l := fun x hx => Classical.byContradiction fun hn => by
        have := testBit_ge ha (Nat.le_of_not_lt hn); rw [(mem_elems.1 hx).2] at this; cases this
      unfold tlS
      rw [if_neg hfull]
      have key := tlS_fold (c := fun x => shiftF l a (dF l u x) &&& u = 0) (G := fun x k => tlS l a f (u ||| shiftF l a (dF l u x)) (b ||| 2 ^ dF l u x) k) (Q := fun x y => Lead l a (u ||| shiftF l a (dF l u x)) (b ||| 2 ^ dF l u x) y) (E := elems a) (m := m)
        (fun x k hx hc => ih _ _ k (Nat.or_lt_two_pow hu (shiftF_lt (isGrp_ords hg) a _)) fun d hd => by
          rw [Nat.testBit_or, Bool.or_eq_true, Nat.testBit_two_pow] at hd
          rcases hd with hd | hd
          · exact (hI d hd).trans (Sub.or_left _ _)
          · have : dF l u x = d := by simpa using hd
            subst this; exact Sub.or_right _ _)
        (fun x hx x' hx' y hc hc' hq hq' => by
          have hD : y.testBit (dF l u x') = true := (hq' _).1 (by rw [Nat.testBit_or, Nat.testBit_two_pow]; simp)
          have hs' := in_shift hg hl1 hx'
          have hs := in_shift hg hl1 hx
          rcases (hq _).2 hD with h1 | h1
          · rw [Nat.testBit_or, Bool.or_eq_true, Nat.testBit_two_pow] at h1
            rcases h1 with h1 | h1
            · have := hI _ h1 _ hs'
              rw [hl2] at this; cases this
            · have e : dF l u x = dF l u x' := by simpa using h1
              have e1 := dF_add hg (x := x) hl1
              have e2 := dF_add hg (x := x') hl1
              rw [e] at e1
              exact addF_cancel (isGrp_ords hg) (hbit x hx) (hbit x' hx') (e1.trans e2.symm)
          · have := and_zero_bit h1 hs'
            rw [Nat.testBit_or, hs] at this; simp at this)
        (elems a) [] [] (by simpa using elems_nodup a) (by simp) (by simp) (by simp)
      refine ⟨key.1, fun y hy => ?_⟩
      obtain ⟨x, -, hc, hq⟩ := key.2 y hy
      exact hq.back hc
theorem tileL_nodup {l : List Int} (hg : isGrp l = true) {a : Nat} (ha : a < 2 ^ ord l) (m : Nat) : (tileL l a m).Nodup :=
  (tlS_nodup hg ha _ _ _ _ ha fun d hd => by
    have : d = 0 := by
      rw [show (1 : Nat) = 2 ^ 0 from rfl, Nat.testBit_two_pow] at hd
      have : 0 = d := by simpa using hd
      omega
    subst this
    rw [shiftF_none hg ha]; exact Sub.refl _).1
end Go.Zz

/- Lists of numbers put together: subgroups. No program is named here. -/
namespace Go.Zz

def foldP (f : Nat → Nat) (P : List Nat) (k : Nat) : List Nat := (List.range k).foldl (fun L j => putN L (f j)) P
theorem foldP_zero (f : Nat → Nat) (P : List Nat) : foldP f P 0 = P := rfl
theorem foldP_succ (f : Nat → Nat) (P : List Nat) (k : Nat) : foldP f P (k + 1) = putN (foldP f P k) (f k) := by unfold foldP; rw [List.range_succ, List.foldl_append]; rfl
theorem foldP_len (f : Nat → Nat) (P : List Nat) : ∀ k, (foldP f P k).length ≤ P.length + k
  | 0 => Nat.le_refl _
  | k + 1 => by rw [foldP_succ]; have := foldP_len f P k; have := putN_len (foldP f P k) (f k); omega
theorem mem_foldP {f : Nat → Nat} {P : List Nat} {x : Nat} : ∀ {k}, x ∈ foldP f P k ↔ x ∈ P ∨ ∃ j, j < k ∧ x = f j
  | 0 => by simp [foldP_zero]
  | k + 1 => by
    rw [foldP_succ, mem_putN, mem_foldP]
    constructor
    · rintro (h | h | ⟨j, hj, e⟩)
      · exact Or.inr ⟨k, by omega, h⟩
      · exact Or.inl h
      · exact Or.inr ⟨j, by omega, e⟩
    · rintro (h | ⟨j, hj, e⟩)
      · exact Or.inr (Or.inl h)
      · by_cases hjk : j = k
        · subst hjk; exact Or.inl e
        · exact Or.inr (Or.inr ⟨j, by omega, e⟩)
/-- the cyclic subgroups -/
def cycT (l : List Int) (k : Nat) : List Nat := foldP (fun x => genF l (2 ^ x)) [] k
/-- sums of two of a list, the rows up to k -/
def pairT (l : List Int) (C : List Nat) : Nat → List Nat
  | 0 => []
  | k + 1 => foldP (fun j => sumF l (nthN C k) (nthN C j)) (pairT l C k) (k + 1)
theorem pairT_len (l : List Int) (C : List Nat) : ∀ k, (pairT l C k).length ≤ k * k
  | 0 => Nat.le_refl _
  | k + 1 => by
    have h1 := pairT_len l C k
    have h2 := foldP_len (fun j => sumF l (nthN C k) (nthN C j)) (pairT l C k) (k + 1)
    show (foldP _ _ _).length ≤ _
    have e : (k + 1) * (k + 1) = k * k + k + k + 1 := by rw [Nat.add_mul, Nat.mul_add]; omega
    omega
/-- sums of one of a list and one of another -/
def tripT (l : List Int) (T C : List Nat) : Nat → List Nat
  | 0 => T
  | k + 1 => foldP (fun j => sumF l (nthN T k) (nthN C j)) (tripT l T C k) C.length
theorem tripT_len (l : List Int) (T C : List Nat) : ∀ k, (tripT l T C k).length ≤ T.length + k * C.length
  | 0 => by simp [tripT]
  | k + 1 => by
    have h1 := tripT_len l T C k
    have h2 := foldP_len (fun j => sumF l (nthN T k) (nthN C j)) (tripT l T C k) C.length
    show (foldP _ _ _).length ≤ _
    rw [Nat.add_mul]
    omega
def cycL (l : List Int) : List Nat := cycT l (ord l)
def twoL (l : List Int) : List Nat := pairT l (cycL l) (cycL l).length
/-- the subgroups as the reference lists them -/
def sgL (l : List Int) : List Nat := tripT l (twoL l) (cycL l) (twoL l).length
theorem cycL_len {l : List Int} (hg : isGrp l = true) : (cycL l).length ≤ 24 := by
  have := foldP_len (fun x => genF l (2 ^ x)) [] (ord l)
  have := ord_bd hg
  simp only [List.length_nil] at *
  show (foldP _ _ _).length ≤ _
  omega
theorem twoL_len {l : List Int} (hg : isGrp l = true) : (twoL l).length ≤ 576 := by
  have h1 := pairT_len l (cycL l) (cycL l).length
  have h2 := cycL_len hg
  exact Nat.le_trans h1 (Nat.mul_le_mul h2 h2)
theorem sgL_len {l : List Int} (hg : isGrp l = true) : (sgL l).length ≤ 14400 := by
  have h1 := tripT_len l (twoL l) (cycL l) (twoL l).length
  have h2 := cycL_len hg
  have h3 := twoL_len hg
  have h4 : (twoL l).length * (cycL l).length ≤ 576 * 24 := Nat.mul_le_mul h3 h2
  show (tripT _ _ _ _).length ≤ _
  omega
theorem cyc_lt {l : List Int} (hg : isGrp l = true) {k x : Nat} (h : x ∈ cycT l k) : x < 2 ^ ord l := by
  rcases mem_foldP.1 h with h | ⟨j, _, rfl⟩
  · cases h
  · exact genF_lt hg _
theorem pairT_lt {l : List Int} (hg : isGrp l = true) {C : List Nat} : ∀ {k x}, x ∈ pairT l C k → x < 2 ^ ord l
  | 0, x, h => by cases h
  | k + 1, x, h => by
    rcases mem_foldP.1 h with h | ⟨j, _, rfl⟩
    · exact pairT_lt hg h
    · exact sumF_lt (isGrp_ords hg) _ _
theorem tripT_lt {l : List Int} (hg : isGrp l = true) {T C : List Nat} (hT : ∀ x ∈ T, x < 2 ^ ord l) : ∀ {k x}, x ∈ tripT l T C k → x < 2 ^ ord l
  | 0, x, h => hT x h
  | k + 1, x, h => by
    rcases mem_foldP.1 h with h | ⟨j, _, rfl⟩
    · exact tripT_lt hg hT h
    · exact sumF_lt (isGrp_ords hg) _ _
theorem twoL_lt {l : List Int} (hg : isGrp l = true) : ∀ x ∈ twoL l, x < 2 ^ ord l := fun _ h => pairT_lt hg h
theorem sgL_lt {l : List Int} (hg : isGrp l = true) : ∀ x ∈ sgL l, x < 2 ^ ord l := fun _ h => tripT_lt hg (twoL_lt hg) h
theorem nthN_lt {l : List Int} (hg : isGrp l = true) {L : List Nat} (h : ∀ x ∈ L, x < 2 ^ ord l) (k : Nat) : nthN L k < 2 ^ ord l := by
  by_cases hk : k < L.length
  · exact h _ (nthN_mem hk)
  · have : nthN L k = 0 := by simp [nthN, List.getD, hk]
    rw [this]; exact Nat.two_pow_pos _
theorem cycL_ne {l : List Int} (hg : isGrp l = true) : 0 < (cycL l).length := by
  have hob := ord_bd hg
  have : genF l (2 ^ 0) ∈ cycL l := mem_foldP.2 (Or.inr ⟨0, by omega, rfl⟩)
  exact List.length_pos_of_mem this
theorem sgL_ne {l : List Int} (hg : isGrp l = true) : 0 < (sgL l).length := by
  have h1 := cycL_ne hg
  have h2 : sumF l (nthN (cycL l) 0) (nthN (cycL l) 0) ∈ pairT l (cycL l) 1 := mem_foldP.2 (Or.inr ⟨0, by omega, rfl⟩)
  have key : ∀ k, 1 ≤ k → sumF l (nthN (cycL l) 0) (nthN (cycL l) 0) ∈ pairT l (cycL l) k := by
    intro k hk
    induction k with
    | zero => omega
    | succ k ih =>
      by_cases e : k = 0
      · subst e; exact h2
      · exact mem_foldP.2 (Or.inl (ih (by omega)))
  have h3 := key _ h1
  have key2 : ∀ k, sumF l (nthN (cycL l) 0) (nthN (cycL l) 0) ∈ tripT l (twoL l) (cycL l) k := by
    intro k
    induction k with
    | zero => exact h3
    | succ k ih => exact mem_foldP.2 (Or.inl ih)
  exact List.length_pos_of_mem (key2 _)
end Go.Zz
