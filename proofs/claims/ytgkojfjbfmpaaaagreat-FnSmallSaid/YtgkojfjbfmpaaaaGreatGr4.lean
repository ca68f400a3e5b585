/- Plain facts on tilings: the search fills the least element that is not reached yet. No program is named here. -/
import Derived.Test.YtgkojfjbfmpaaaaGreatGr3
import Derived.Deep.RegionHeld3
import Derived.Deep.RegionWith
namespace Go.Zz

/-- the least i that is no bit of r -/
def lowG (r : Nat) : Nat → Nat → Nat
  | 0, e => e
  | n + 1, e => if r.testBit e then lowG r n (e + 1) else e
def lowZ (r : Nat) : Nat := lowG r 25 0
theorem lowG_is {r e : Nat} (h2 : r.testBit e = false) : ∀ n i, i ≤ e → e < i + n → (∀ j, i ≤ j → j < e → r.testBit j = true) → lowG r n i = e := by
  intro n
  induction n with
  | zero => intro i h3 h4; omega
  | succ n ih =>
    intro i h3 h4 h1
    unfold lowG
    by_cases hi : i = e
    · subst hi; rw [h2]; rfl
    · rw [h1 i (Nat.le_refl _) (by omega)]
      exact ih (i + 1) (by omega) (by omega) fun j hj hj2 => h1 j (by omega) hj2
theorem lowZ_is {r e : Nat} (h1 : ∀ j, j < e → r.testBit j = true) (h2 : r.testBit e = false) (h3 : e ≤ 24) : lowZ r = e :=
  lowG_is h2 25 0 (by omega) (by omega) fun j _ hj => h1 j hj
theorem not_full {l : List Int} {u e : Nat} (hu : u < 2 ^ ord l) (h : ∀ j, j < e → u.testBit j = true) (he : ord l ≤ e) : u = fullN l := by
  apply Nat.eq_of_testBit_eq
  intro i
  rw [fullN_bit]
  by_cases hi : i < ord l
  · rw [h i (by omega)]; simp [hi]
  · rw [testBit_ge hu (by omega)]; simp [hi]
def dF (l : List Int) (u x : Nat) : Nat := addF l (lowZ u) (negF l x)
theorem dF_lt {l : List Int} (h : isGrp l = true) (u x : Nat) : dF l u x < ord l := addF_lt l (isGrp_ords h) _ _

def tlS (l : List Int) (a : Nat) : Nat → Nat → Nat → Nat → List Nat
  | 0, _, _, _ => []
  | f + 1, u, b, m => if u = fullN l then [b] else
      (elems a).foldl (fun (out : List Nat) (x : Nat) => if out.length < m ∧ shiftF l a (dF l u x) &&& u = 0 then out ++ tlS l a f (u ||| shiftF l a (dF l u x)) (b ||| 2 ^ dF l u x) (m - out.length) else out) []
def tlSto (l : List Int) (a f u b m k : Nat) : List Nat := ((elems a).take k).foldl (fun (out : List Nat) (x : Nat) => if out.length < m ∧ shiftF l a (dF l u x) &&& u = 0 then out ++ tlS l a f (u ||| shiftF l a (dF l u x)) (b ||| 2 ^ dF l u x) (m - out.length) else out) []
theorem tlS_full {l : List Int} {a f u b m : Nat} (h : u = fullN l) : tlS l a (f + 1) u b m = [b] := by unfold tlS; rw [if_pos h]
theorem tlS_end {l : List Int} {a f u b m : Nat} (h : u ≠ fullN l) : tlS l a (f + 1) u b m = tlSto l a f u b m (elems a).length := by
  unfold tlS tlSto; rw [if_neg h, List.take_length]
theorem tlSto_zero (l : List Int) (a f u b m : Nat) : tlSto l a f u b m 0 = [] := rfl
theorem elems_take {a k : Nat} (hk : k < (elems a).length) : (elems a).take (k + 1) = (elems a).take k ++ [(elems a)[k]] := List.take_succ_eq_append_getElem hk
theorem tlSto_yes {l : List Int} {a f u b m k : Nat} (hk : k < (elems a).length) (hm : (tlSto l a f u b m k).length < m) (h : shiftF l a (dF l u (elems a)[k]) &&& u = 0) :
    tlSto l a f u b m (k + 1) = tlSto l a f u b m k ++ tlS l a f (u ||| shiftF l a (dF l u (elems a)[k])) (b ||| 2 ^ dF l u (elems a)[k]) (m - (tlSto l a f u b m k).length) := by
  unfold tlSto at hm ⊢; rw [elems_take hk, List.foldl_append]; simp only [List.foldl_cons, List.foldl_nil]; rw [if_pos ⟨hm, h⟩]
theorem tlSto_no {l : List Int} {a f u b m k : Nat} (hk : k < (elems a).length) (h : ¬ shiftF l a (dF l u (elems a)[k]) &&& u = 0) : tlSto l a f u b m (k + 1) = tlSto l a f u b m k := by
  unfold tlSto; rw [elems_take hk, List.foldl_append]; simp only [List.foldl_cons, List.foldl_nil]; rw [if_neg fun e => h e.2]
theorem tlSto_stop {l : List Int} {a f u b m k : Nat} (hm : ¬ (tlSto l a f u b m k).length < m) : ∀ d, tlSto l a f u b m (k + d) = tlSto l a f u b m k := by
  intro d
  induction d with
  | zero => rfl
  | succ d ih =>
    rw [← Nat.add_assoc]
    by_cases hk : k + d < (elems a).length
    · rw [← ih] at hm ⊢
      have e : tlSto l a f u b m (k + d + 1) = tlSto l a f u b m (k + d) := by
        unfold tlSto at hm ⊢; rw [elems_take hk, List.foldl_append]; simp only [List.foldl_cons, List.foldl_nil]; rw [if_neg fun e => hm e.1]
      rw [e]
    · rw [← ih]; unfold tlSto; rw [List.take_of_length_le (by omega), List.take_of_length_le (by omega)]
theorem tlS_stop {l : List Int} {a f u b m k : Nat} (h : u ≠ fullN l) (hk : k ≤ (elems a).length) (hm : k = (elems a).length ∨ ¬ (tlSto l a f u b m k).length < m) : tlS l a (f + 1) u b m = tlSto l a f u b m k := by
  rw [tlS_end h]
  rcases hm with rfl | hm
  · rfl
  · have := tlSto_stop hm ((elems a).length - k)
    rw [show k + ((elems a).length - k) = (elems a).length by omega] at this; exact this

def tlI (l : List Int) (a m : Nat) : Nat → Nat → Nat → List Nat → List Nat
  | 0, _, _, out => out
  | f + 1, u, b, out => if u = fullN l then out ++ [b] else
      (elems a).foldl (fun (out : List Nat) (x : Nat) => if shiftF l a (dF l u x) &&& u = 0 ∧ out.length < m then tlI l a m f (u ||| shiftF l a (dF l u x)) (b ||| 2 ^ dF l u x) out else out) out
def tlIto (l : List Int) (a m f u b : Nat) (out : List Nat) (k : Nat) : List Nat := ((elems a).take k).foldl (fun (out : List Nat) (x : Nat) => if shiftF l a (dF l u x) &&& u = 0 ∧ out.length < m then tlI l a m f (u ||| shiftF l a (dF l u x)) (b ||| 2 ^ dF l u x) out else out) out
theorem tlI_full {l : List Int} {a m f u b : Nat} {out : List Nat} (h : u = fullN l) : tlI l a m (f + 1) u b out = out ++ [b] := by unfold tlI; rw [if_pos h]
theorem tlI_end {l : List Int} {a m f u b : Nat} {out : List Nat} (h : u ≠ fullN l) : tlI l a m (f + 1) u b out = tlIto l a m f u b out (elems a).length := by
  unfold tlI tlIto; rw [if_neg h, List.take_length]
theorem tlIto_zero (l : List Int) (a m f u b : Nat) (out : List Nat) : tlIto l a m f u b out 0 = out := rfl
theorem tlIto_yes {l : List Int} {a m f u b k : Nat} {out : List Nat} (hk : k < (elems a).length) (h : shiftF l a (dF l u (elems a)[k]) &&& u = 0) (hm : (tlIto l a m f u b out k).length < m) :
    tlIto l a m f u b out (k + 1) = tlI l a m f (u ||| shiftF l a (dF l u (elems a)[k])) (b ||| 2 ^ dF l u (elems a)[k]) (tlIto l a m f u b out k) := by
  unfold tlIto at hm ⊢; rw [elems_take hk, List.foldl_append]; simp only [List.foldl_cons, List.foldl_nil]; rw [if_pos ⟨h, hm⟩]
theorem tlIto_no {l : List Int} {a m f u b k : Nat} {out : List Nat} (hk : k < (elems a).length) (h : ¬ (shiftF l a (dF l u (elems a)[k]) &&& u = 0 ∧ (tlIto l a m f u b out k).length < m)) :
    tlIto l a m f u b out (k + 1) = tlIto l a m f u b out k := by
  unfold tlIto at h ⊢; rw [elems_take hk, List.foldl_append]; simp only [List.foldl_cons, List.foldl_nil]; rw [if_neg h]
theorem tlI_eq (l : List Int) (a m : Nat) : ∀ f u b out, out.length < m → tlI l a m f u b out = out ++ tlS l a f u b (m - out.length) := by
  intro f
  induction f with
  | zero => intro u b out _; simp [tlI, tlS]
  | succ f ih =>
    intro u b out hm
    by_cases h : u = fullN l
    · rw [tlI_full h, tlS_full h]
    · unfold tlI tlS
      rw [if_neg h, if_neg h]
      have key : ∀ (L : List Nat) (oS : List Nat), L.foldl (fun (out : List Nat) (x : Nat) => if shiftF l a (dF l u x) &&& u = 0 ∧ out.length < m then tlI l a m f (u ||| shiftF l a (dF l u x)) (b ||| 2 ^ dF l u x) out else out) (out ++ oS) =
          out ++ L.foldl (fun (o : List Nat) (x : Nat) => if o.length < m - out.length ∧ shiftF l a (dF l u x) &&& u = 0 then o ++ tlS l a f (u ||| shiftF l a (dF l u x)) (b ||| 2 ^ dF l u x) (m - out.length - o.length) else o) oS := by
        intro L
        induction L with
        | nil => intro oS; rfl
        | cons x L ih2 =>
          intro oS
          simp only [List.foldl_cons]
          by_cases hs : shiftF l a (dF l u x) &&& u = 0
          · by_cases hl : oS.length < m - out.length
            · rw [if_pos ⟨hs, by rw [List.length_append]; omega⟩, if_pos ⟨hl, hs⟩, ih _ _ _ (by rw [List.length_append]; omega), List.append_assoc, List.length_append, show m - (out.length + oS.length) = m - out.length - oS.length by omega]
              exact ih2 _
            · rw [if_neg (by rw [List.length_append]; intro e; omega), if_neg fun e => hl e.1]
              exact ih2 _
          · rw [if_neg fun e => hs e.1, if_neg fun e => hs e.2]
            exact ih2 _
      have := key (elems a) []
      simpa using this
/-- a step reaches more -/
theorem tl_more {l : List Int} (hg : isGrp l = true) {a u : Nat} (ha : a ≠ 0) (ha2 : a < 2 ^ ord l) (hu : u < 2 ^ ord l) (d : Nat) (h : shiftF l a d &&& u = 0) :
    u ||| shiftF l a d < 2 ^ ord l ∧ cnt u < cnt (u ||| shiftF l a d) := by
  have hs := shiftF_lt (isGrp_ords hg) a d
  have h1 := Nat.or_lt_two_pow hu hs
  have hp := pow_ord hg
  refine ⟨h1, (sub_lt (Nat.lt_of_lt_of_le h1 hp) (fun i hi => by rw [Nat.testBit_or, hi]; rfl) fun e => ?_).2⟩
  have hc : cnt (shiftF l a d) ≠ 0 := by
    rw [cnt_shift hg ha2]
    have := cnt_pos (Nat.pos_of_ne_zero ha) (Nat.lt_of_lt_of_le ha2 hp); omega
  obtain ⟨i, hi⟩ := bit_of_pos (cnt_ne hc)
  have h3 : u.testBit i = true := by rw [e, Nat.testBit_or, hi]; simp
  have h4 : (shiftF l a d &&& u).testBit i = true := by rw [Nat.testBit_and, hi, h3]; rfl
  rw [h, Nat.zero_testBit] at h4; cases h4
def tileL (l : List Int) (a m : Nat) : List Nat := tlS l a (ord l + 1) a 1 m
theorem tlS_len (l : List Int) (a : Nat) : ∀ f u b m, 1 ≤ m → (tlS l a f u b m).length ≤ m := by
  intro f
  induction f with
  | zero => intro u b m _; simp [tlS]
  | succ f ih =>
    intro u b m hm
    unfold tlS
    split
    · simpa using hm
    · have key : ∀ (L : List Nat) (oS : List Nat), oS.length ≤ m → (L.foldl (fun (o : List Nat) (x : Nat) => if o.length < m ∧ shiftF l a (dF l u x) &&& u = 0 then o ++ tlS l a f (u ||| shiftF l a (dF l u x)) (b ||| 2 ^ dF l u x) (m - o.length) else o) oS).length ≤ m := by
        intro L
        induction L with
        | nil => intro oS h; exact h
        | cons x L ih2 =>
          intro oS h
          simp only [List.foldl_cons]
          refine ih2 _ ?_
          split
          · next h3 => have := ih (u ||| shiftF l a (dF l u x)) (b ||| 2 ^ dF l u x) (m - oS.length) (by omega); rw [List.length_append]; omega
          · exact h
      exact key _ _ (by simp)
/-- the first tile -/
def ftB (l : List Int) (a : Int) : Bool := isOneB l a && !(tileL l a.toNat 1).isEmpty
def ftV (l : List Int) (a : Int) : Int := if ftB l a then (((tileL l a.toNat 1).headD 0 : Nat) : Int) else 0
theorem ft_no {l : List Int} {a : Int} (h : isOneB l a = false) : ftB l a = false ∧ ftV l a = 0 := by
  have e : ftB l a = false := by unfold ftB; rw [h]; rfl
  exact ⟨e, by unfold ftV; rw [e]; rfl⟩
theorem ft_nil {l : List Int} {n : Nat} (h : tileL l n 1 = []) : ftB l n = false ∧ ftV l n = 0 := by
  have e : ftB l n = false := by unfold ftB; rw [show ((n : Int)).toNat = n from rfl, h]; simp
  exact ⟨e, by unfold ftV; rw [e]; rfl⟩
theorem ft_yes {l : List Int} {n : Nat} (h1 : isOneB l n = true) {x : Nat} {L : List Nat} (h : tileL l n 1 = x :: L) : ftB l n = true ∧ ftV l n = (x : Int) := by
  have e : ftB l n = true := by unfold ftB; rw [h1, show ((n : Int)).toNat = n from rfl, h]; rfl
  exact ⟨e, by unfold ftV; rw [e, show ((n : Int)).toNat = n from rfl, h]; rfl⟩
end Go.Zz

/- Plain facts on the search for a first largest set with a property that parts keep; cliques. No program is named here. -/
namespace Go.Zz
set_option linter.unusedVariables false

/-- the elements from fr on by which b may grow -/
def kidN (P : Nat → Bool) (N b fr : Nat) : Nat := bset ((List.range N).filter (fun x => decide (fr ≤ x) && P (b ||| 2 ^ x)))
theorem kidN_bit {P : Nat → Bool} {N b fr i : Nat} : (kidN P N b fr).testBit i = (decide (i < N) && (decide (fr ≤ i) && P (b ||| 2 ^ i))) := by
  unfold kidN; rw [testBit_bset, Bool.eq_iff_iff]; simp [List.mem_filter]
theorem kidN_lt (P : Nat → Bool) (N b fr : Nat) : kidN P N b fr < 2 ^ N := bset_lt fun _ hx => List.mem_range.1 (List.mem_filter.1 hx).1
def fsS (P : Nat → Bool) (N : Nat) : Nat → Nat → Nat → Nat
  | 0, b, _ => b
  | f + 1, b, fr => (elems (kidN P N b fr)).foldl (fun (best x : Nat) => if cnt best < cnt (fsS P N f (b ||| 2 ^ x) (x + 1)) then fsS P N f (b ||| 2 ^ x) (x + 1) else best) b
def fsSto (P : Nat → Bool) (N f b fr k : Nat) : Nat := ((elems (kidN P N b fr)).take k).foldl (fun (best x : Nat) => if cnt best < cnt (fsS P N f (b ||| 2 ^ x) (x + 1)) then fsS P N f (b ||| 2 ^ x) (x + 1) else best) b
theorem fsS_end (P : Nat → Bool) (N f b fr : Nat) : fsS P N (f + 1) b fr = fsSto P N f b fr (elems (kidN P N b fr)).length := by unfold fsSto; rw [List.take_length]; rfl
theorem fsSto_zero (P : Nat → Bool) (N f b fr : Nat) : fsSto P N f b fr 0 = b := rfl
theorem fsSto_more {P : Nat → Bool} {N f b fr k : Nat} (hk : k < (elems (kidN P N b fr)).length) (h : cnt (fsSto P N f b fr k) < cnt (fsS P N f (b ||| 2 ^ nthN (elems (kidN P N b fr)) k) (nthN (elems (kidN P N b fr)) k + 1))) :
    fsSto P N f b fr (k + 1) = fsS P N f (b ||| 2 ^ nthN (elems (kidN P N b fr)) k) (nthN (elems (kidN P N b fr)) k + 1) := by
  unfold fsSto at h ⊢; rw [take_nthN _ _ hk, List.foldl_append]; simp only [List.foldl_cons, List.foldl_nil]; rw [if_pos h]
theorem fsSto_less {P : Nat → Bool} {N f b fr k : Nat} (hk : k < (elems (kidN P N b fr)).length) (h : ¬ cnt (fsSto P N f b fr k) < cnt (fsS P N f (b ||| 2 ^ nthN (elems (kidN P N b fr)) k) (nthN (elems (kidN P N b fr)) k + 1))) :
    fsSto P N f b fr (k + 1) = fsSto P N f b fr k := by
  unfold fsSto at h ⊢; rw [take_nthN _ _ hk, List.foldl_append]; simp only [List.foldl_cons, List.foldl_nil]; rw [if_neg h]
/-- the same with the best one so far and its size -/
def fsI (P : Nat → Bool) (N : Nat) : Nat → Nat → Nat → Nat → Nat × Int → Nat × Int
  | 0, b, n, _, s => if s.2 < n then (b, n) else s
  | f + 1, b, n, fr, s => (elems (kidN P N b fr)).foldl (fun (s : Nat × Int) (x : Nat) => fsI P N f (b ||| 2 ^ x) (n + 1) (x + 1) s) (if s.2 < n then (b, n) else s)
/-- after the elements below k -/
def fsIto (P : Nat → Bool) (N f b n fr : Nat) (s : Nat × Int) (k : Nat) : Nat × Int := (elemsTo (kidN P N b fr) k).foldl (fun (s : Nat × Int) (x : Nat) => fsI P N f (b ||| 2 ^ x) (n + 1) (x + 1) s) (if s.2 < n then (b, n) else s)
theorem fsI_end {P : Nat → Bool} {N : Nat} (hN : N ≤ 24) (f b n fr : Nat) (s : Nat × Int) : fsI P N (f + 1) b n fr s = fsIto P N f b n fr s N := by
  unfold fsIto; rw [elemsTo_all hN (kidN_lt P N b fr)]; rfl
theorem elemsTo_nil0 {a k : Nat} (h : ∀ i, i < k → a.testBit i = false) : elemsTo a k = [] := by
  unfold elemsTo; rw [List.filter_eq_nil_iff]; intro i hi; rw [h i (List.mem_range.1 hi)]; simp
theorem fsIto_start {P : Nat → Bool} {N f b n fr : Nat} {s : Nat × Int} : fsIto P N f b n fr s fr = if s.2 < n then (b, (n : Int)) else s := by
  unfold fsIto; rw [elemsTo_nil0 fun i hi => by rw [kidN_bit]; simp; intro _ h; omega]; rfl
theorem fsIto_yes {P : Nat → Bool} {N f b n fr k : Nat} {s : Nat × Int} (h1 : k < N) (h2 : fr ≤ k) (h : P (b ||| 2 ^ k) = true) : fsIto P N f b n fr s (k + 1) = fsI P N f (b ||| 2 ^ k) (n + 1) (k + 1) (fsIto P N f b n fr s k) := by
  unfold fsIto; rw [elemsTo_succ, show (kidN P N b fr).testBit k = true by rw [kidN_bit, h]; simp [h1, h2], if_pos rfl, List.foldl_append]; rfl
theorem fsIto_no {P : Nat → Bool} {N f b n fr k : Nat} {s : Nat × Int} (h : P (b ||| 2 ^ k) = false) : fsIto P N f b n fr s (k + 1) = fsIto P N f b n fr s k := by
  unfold fsIto; rw [elemsTo_succ, show (kidN P N b fr).testBit k = false by rw [kidN_bit, h]; simp]; simp
theorem bit_two (x i : Nat) : (2 ^ x).testBit i = decide (x = i) := Nat.testBit_two_pow
theorem cnt_or_new {b x : Nat} (hb : b < 2 ^ 24) (hx : x < 24) (h : b.testBit x = false) : cnt (b ||| 2 ^ x) = cnt b + 1 := by
  have h1 := cnt_sub (Sub.or_left b (2 ^ x))
  have e : andN (b ||| 2 ^ x) b = 2 ^ x := Nat.eq_of_testBit_eq fun i => by
    rw [andN_bit, Nat.testBit_or, bit_two]
    by_cases hi : x = i
    · subst hi; simp [h]
    · simp [hi]
  rw [e] at h1
  have h2 : elems (2 ^ x) = (List.range 24).filter (fun i => decide (x = i)) := by unfold elems; congr 1; funext i; exact bit_two x i
  have h3 : cnt (2 ^ x) = 1 := by
    unfold cnt; rw [h2]
    have : ∀ n, x < n → ((List.range n).filter (fun i => decide (x = i))).length = 1 := by
      intro n
      induction n with
      | zero => omega
      | succ n ih =>
        intro hn
        rw [List.range_succ, List.filter_append, List.length_append]
        by_cases hxn : x = n
        · subst hxn
          have : (List.range x).filter (fun i => decide (x = i)) = [] := by rw [List.filter_eq_nil_iff]; intro i hi; have := List.mem_range.1 hi; simp; omega
          rw [this]; simp
        · rw [ih (by omega)]; simp [hxn]
    exact this 24 hx
  omega
/-- both searches find the same -/
theorem fsI_eq (P : Nat → Bool) (N : Nat) (hN : N ≤ 24) : ∀ (f b fr : Nat) (s : Nat × Int), b < 2 ^ fr → fr ≤ N → fsI P N f b (cnt b) fr s = if s.2 < cnt (fsS P N f b fr) then (fsS P N f b fr, (cnt (fsS P N f b fr) : Int)) else s := by
  intro f
  induction f with
  | zero => intro b fr s _ _; rfl
  | succ f ih =>
    intro b fr s hb hfr
    unfold fsI fsS
    have key : ∀ (L : List Nat), (∀ x ∈ L, fr ≤ x ∧ x < N) → ∀ r, (L.foldl (fun (s : Nat × Int) (x : Nat) => fsI P N f (b ||| 2 ^ x) (cnt b + 1) (x + 1) s) (if s.2 < cnt r then (r, (cnt r : Int)) else s)) =
        (if s.2 < cnt (L.foldl (fun (best x : Nat) => if cnt best < cnt (fsS P N f (b ||| 2 ^ x) (x + 1)) then fsS P N f (b ||| 2 ^ x) (x + 1) else best) r) then (L.foldl (fun (best x : Nat) => if cnt best < cnt (fsS P N f (b ||| 2 ^ x) (x + 1)) then fsS P N f (b ||| 2 ^ x) (x + 1) else best) r, (cnt (L.foldl (fun (best x : Nat) => if cnt best < cnt (fsS P N f (b ||| 2 ^ x) (x + 1)) then fsS P N f (b ||| 2 ^ x) (x + 1) else best) r) : Int)) else s) := by
      intro L
      induction L with
      | nil => intro _ r; rfl
      | cons x L ih2 =>
        intro hL r
        obtain ⟨hx1, hx2⟩ := hL x (by simp)
        have hbx : b.testBit x = false := testBit_ge hb hx1
        have hb24 : b < 2 ^ 24 := Nat.lt_of_lt_of_le hb (Nat.pow_le_pow_right (by omega) (by omega))
        have hc := cnt_or_new hb24 (show x < 24 by omega) hbx
        have hb2 : b ||| 2 ^ x < 2 ^ (x + 1) := Nat.or_lt_two_pow (Nat.lt_of_lt_of_le hb (Nat.pow_le_pow_right (by omega) (by omega))) (Nat.pow_lt_pow_right (by omega) (by omega))
        simp only [List.foldl_cons]
        have e := fun s => ih (b ||| 2 ^ x) (x + 1) s hb2 (by omega)
        rw [hc] at e
        have e2 : fsI P N f (b ||| 2 ^ x) (cnt b + 1) (x + 1) (if s.2 < cnt r then (r, (cnt r : Int)) else s) =
            (if s.2 < cnt (if cnt r < cnt (fsS P N f (b ||| 2 ^ x) (x + 1)) then fsS P N f (b ||| 2 ^ x) (x + 1) else r) then ((if cnt r < cnt (fsS P N f (b ||| 2 ^ x) (x + 1)) then fsS P N f (b ||| 2 ^ x) (x + 1) else r), (cnt (if cnt r < cnt (fsS P N f (b ||| 2 ^ x) (x + 1)) then fsS P N f (b ||| 2 ^ x) (x + 1) else r) : Int)) else s) := by
          rw [e]
          generalize fsS P N f (b ||| 2 ^ x) (x + 1) = y
          by_cases h1 : s.2 < cnt r <;> by_cases h2 : cnt r < cnt y <;> by_cases h3 : s.2 < cnt y <;> simp [h1, h2, h3] <;> omega
        rw [e2]
        exact ih2 (fun y hy => hL y (by simp [hy])) _
    refine key _ (fun x hx => ?_) b
    have := (mem_elems.1 hx).2
    rw [kidN_bit] at this
    simp at this; omega

theorem fsS_lt (P : Nat → Bool) (N : Nat) (hN : N ≤ 24) : ∀ (f b fr : Nat), b < 2 ^ 24 → fsS P N f b fr < 2 ^ 24 := by
  intro f
  induction f with
  | zero => intro b fr h; exact h
  | succ f ih =>
    intro b fr h
    unfold fsS
    have key : ∀ (L : List Nat), (∀ x ∈ L, x < 24) → ∀ r, r < 2 ^ 24 → L.foldl (fun (best x : Nat) => if cnt best < cnt (fsS P N f (b ||| 2 ^ x) (x + 1)) then fsS P N f (b ||| 2 ^ x) (x + 1) else best) r < 2 ^ 24 := by
      intro L
      induction L with
      | nil => intro _ r hr; exact hr
      | cons x L ih2 =>
        intro hL r hr
        simp only [List.foldl_cons]
        refine ih2 (fun y hy => hL y (by simp [hy])) _ ?_
        split
        · exact ih _ _ (Nat.or_lt_two_pow h (Nat.pow_lt_pow_right (by omega) (hL x (by simp))))
        · exact hr
    exact key _ (fun x hx => elems_lt hx) b h

/-! ### cliques -/
def cliP (l : List Int) (a b : Nat) : Bool := decide (andN (sumF l b (oppF l b)) (a ||| 1) = 0)
theorem cliP_iff {l : List Int} (hg : isGrp l = true) {a b : Nat} : cliP l a b = true ↔ ∀ y z, y < 24 → z < 24 → b.testBit y = true → b.testBit z = true → (a ||| 1).testBit (addF l y (negF l z)) = true := by
  unfold cliP
  rw [decide_eq_true_iff, andN_zero]
  constructor
  · intro h y z hy hz hby hbz
    exact h _ (testBit_sumF.2 ⟨y, negF l z, hy, hby, negF_bd hg z, testBit_oppF.2 ⟨z, hz, hbz, rfl⟩, rfl⟩)
  · intro h i hi
    obtain ⟨y, w, hy, hby, _, hw, rfl⟩ := testBit_sumF.1 hi
    obtain ⟨z, hz, hbz, rfl⟩ := testBit_oppF.1 hw
    exact h y z hy hz hby hbz
theorem addF_zero' {l : List Int} (h : Ords l) {x : Nat} (hx : x < ord l) : addF l x 0 = x := by rw [addF_comm]; exact addF_zero l h x hx
theorem neg_neg {l : List Int} (h : Ords l) {x : Nat} (hx : x < ord l) : negF l (negF l x) = x := by
  have h1 : addF l (negF l x) (negF l (negF l x)) = addF l (negF l x) x := by rw [addF_neg l h, addF_comm, addF_neg l h]
  exact addF_cancel h (negF_lt l h _) hx h1
/-- z = y + (z - y) -/
theorem add_sub {l : List Int} (h : Ords l) {y z : Nat} (hz : z < ord l) : addF l y (addF l z (negF l y)) = z := by
  rw [addF_comm l z, ← addF_assoc l h, addF_neg l h, addF_zero l h _ hz]
theorem neg_sub {l : List Int} (h : Ords l) {y z : Nat} (hy : y < ord l) (hz : z < ord l) : negF l (addF l y (negF l z)) = addF l z (negF l y) := by
  have e : addF l (addF l y (negF l z)) (addF l z (negF l y)) = 0 := by
    rw [addF_assoc l h, ← addF_assoc l h (negF l z), addF_comm l (negF l z) z, addF_neg l h, addF_zero l h _ (negF_lt l h _), addF_neg l h]
  exact (addF_cancel h (addF_lt l h _ _) (negF_lt l h _) (by rw [e, addF_neg l h])).symm
theorem one_bit (i : Nat) : (1 : Nat).testBit i = decide (i = 0) := by
  have := bit_two 0 i; rw [show (2:Nat) ^ 0 = 1 from rfl] at this; rw [this, Bool.eq_iff_iff]; simp; exact eq_comm
theorem conn_self (l : List Int) (h : Ords l) (a y : Nat) : (a ||| 1).testBit (addF l y (negF l y)) = true := by rw [addF_neg l h, Nat.testBit_or, one_bit]; simp
/-- joined by i - x -/
theorem conn_iff {l : List Int} (hg : isGrp l = true) {a x i : Nat} (ha : a < 2 ^ ord l) (hx : x < ord l) (hi : i < ord l) (hne : x ≠ i) : (a ||| 1).testBit (addF l i (negF l x)) = (shiftF l a x).testBit i := by
  have h := isGrp_ords hg
  have h0 : addF l i (negF l x) ≠ 0 := fun e => by
    have := add_sub h (y := x) hi
    rw [e, addF_zero' h hx] at this; exact hne this
  rw [Nat.testBit_or, one_bit, show decide (addF l i (negF l x) = 0) = false from decide_eq_false h0, Bool.or_false]
  refine bool_eq_of ⟨fun e => testBit_shiftF.2 ⟨_, addF_bd hg _ _, e, add_sub h hi⟩, fun e => ?_⟩
  obtain ⟨y, hy, hay, he⟩ := testBit_shiftF.1 e
  rw [← he, addF_comm l x y, addF_assoc l h, addF_neg l h, addF_zero' h (bit_lt ha hay)]
  exact hay
theorem conn_symm {l : List Int} (hg : isGrp l = true) {a y z : Nat} (ho : oppF l a = a) (hy : y < ord l) (hz : z < ord l) (h : (a ||| 1).testBit (addF l y (negF l z)) = true) : (a ||| 1).testBit (addF l z (negF l y)) = true := by
  have hO := isGrp_ords hg
  rw [Nat.testBit_or, one_bit] at h ⊢
  rw [Bool.or_eq_true] at h ⊢
  rcases h with h | h
  · left
    rw [← ho]
    exact testBit_oppF.2 ⟨_, addF_bd hg _ _, h, neg_sub hO hy hz⟩
  · right
    rw [decide_eq_true_iff] at h ⊢
    have h1 := add_sub hO (y := z) hy
    rw [h, addF_zero' hO hz] at h1
    rw [h1, addF_neg l hO]
/-- the candidates of the next step -/
theorem cli_next {l : List Int} (hg : isGrp l = true) {a b fr x : Nat} (ha : a < 2 ^ ord l) (ho : oppF l a = a) (hb : b < 2 ^ fr) (hx : (kidN (cliP l a) (ord l) b fr).testBit x = true) (i : Nat) :
    (kidN (cliP l a) (ord l) (b ||| 2 ^ x) (x + 1)).testBit i = (decide (x + 1 ≤ i) && ((kidN (cliP l a) (ord l) b fr).testBit i && (shiftF l a x).testBit i)) := by
  have hob := ord_bd hg
  rw [kidN_bit] at hx
  simp only [Bool.and_eq_true, decide_eq_true_eq] at hx
  obtain ⟨hx1, hx2, hx3⟩ := hx
  rw [kidN_bit, kidN_bit]
  by_cases hi : i < ord l
  rotate_left
  · simp [hi]
  by_cases hxi : x + 1 ≤ i
  rotate_left
  · simp [hxi]
  rw [← conn_iff hg ha hx1 hi (by omega)]
  simp only [hi, hxi, show fr ≤ i by omega, decide_true, Bool.true_and]
  rw [cliP_iff hg] at hx3
  refine bool_eq_of ⟨fun h => ?_, fun h => ?_⟩
  · rw [cliP_iff hg] at h
    rw [Bool.and_eq_true, cliP_iff hg]
    refine ⟨fun y z hy hz hby hbz => h y z hy hz ?_ ?_, h i x (by omega) (by omega) (by rw [Nat.testBit_or, bit_two]; simp) (by rw [Nat.testBit_or, Nat.testBit_or, bit_two]; simp)⟩
    · rw [Nat.testBit_or, Bool.or_eq_true] at hby; rw [Nat.testBit_or, Nat.testBit_or]; rcases hby with e | e <;> simp [e]
    · rw [Nat.testBit_or, Bool.or_eq_true] at hbz; rw [Nat.testBit_or, Nat.testBit_or]; rcases hbz with e | e <;> simp [e]
  · rw [Bool.and_eq_true, cliP_iff hg] at h
    obtain ⟨h1, h2⟩ := h
    rw [cliP_iff hg]
    have part : ∀ y, (b ||| 2 ^ x ||| 2 ^ i).testBit y = true → (b.testBit y = true ∨ y = x) ∨ y = i := by
      intro y hy
      rw [Nat.testBit_or, Nat.testBit_or, bit_two, bit_two] at hy
      simp only [Bool.or_eq_true, decide_eq_true_eq] at hy
      rcases hy with (e | e) | e
      · exact Or.inl (Or.inl e)
      · exact Or.inl (Or.inr e.symm)
      · exact Or.inr e.symm
    have inx : ∀ y, (b.testBit y = true ∨ y = x) → (b ||| 2 ^ x).testBit y = true := by
      rintro y (e | rfl)
      · rw [Nat.testBit_or, e]; rfl
      · rw [Nat.testBit_or, bit_two]; simp
    have ini : ∀ y, (b.testBit y = true ∨ y = i) → (b ||| 2 ^ i).testBit y = true := by
      rintro y (e | rfl)
      · rw [Nat.testBit_or, e]; rfl
      · rw [Nat.testBit_or, bit_two]; simp
    intro y z hy hz hby hbz
    rcases part y hby with hy1 | rfl
    · rcases part z hbz with hz1 | rfl
      · exact hx3 y z hy hz (inx y hy1) (inx z hz1)
      · rcases hy1 with hy1 | rfl
        · exact h1 y z hy hz (ini y (Or.inl hy1)) (ini z (Or.inr rfl))
        · exact conn_symm hg ho hi hx1 h2
    · rcases part z hbz with hz1 | rfl
      · rcases hz1 with hz1 | rfl
        · exact h1 y z hy hz (ini y (Or.inr rfl)) (ini z (Or.inl hz1))
        · exact h2
      · exact conn_self l (isGrp_ords hg) a _
theorem cli_start {l : List Int} (hg : isGrp l = true) (a : Nat) : kidN (cliP l a) (ord l) 0 0 = fullN l := by
  apply Nat.eq_of_testBit_eq
  intro i
  rw [kidN_bit, fullN_bit]
  by_cases hi : i < ord l
  · have : cliP l a (2 ^ i) = true := by
      rw [cliP_iff hg]
      intro y z _ _ hy hz
      rw [bit_two, decide_eq_true_iff] at hy hz
      subst hy; subst hz
      exact conn_self l (isGrp_ords hg) a i
    simp [hi, this]
  · simp [hi]
/-- left & s, shifted down and up again -/
theorem cut_bits (m s x i : Nat) : (shr (m &&& s) (x + 1) * 2 ^ (x + 1)).testBit i = (decide (x + 1 ≤ i) && (m.testBit i && s.testBit i)) := by
  unfold shr
  rw [← Nat.shiftLeft_eq, Nat.testBit_shiftLeft, Nat.testBit_shiftRight]
  by_cases h : x + 1 ≤ i
  · simp [h, Nat.testBit_and]
  · simp [h]
def lcF (l : List Int) (a : Int) : Bool := connB l a && decide (ord l ≤ 16)
def lcV (l : List Int) (a : Int) : Int := if lcF l a then (fsS (cliP l a.toNat) (ord l) (ord l + 1) 0 0 : Nat) else 0
end Go.Zz

/- Coverings, small doubling, sizes of intersections. -/
namespace Go.Zz
open Go.RowKit Go.Proofs
set_option maxHeartbeats 400000

theorem ints_two (w : World) (a b : Int) (T : TypeId) : Ints (w.alloc (.cells #[.int .i64 a, .int .i64 b] T)) (.slice (some ⟨w.heap.size, 0, none⟩) 2 2) [a, b] := by
  refine ⟨_, 2, rfl, Nat.le_refl _, by simp, fun i hi => ⟨_, rfl, ?_⟩⟩
  match i, hi with
  | 0, _ => simp [go_sem, nth, Addr.add]
  | 1, _ => simp [go_sem, nth, Addr.add]
theorem areF_two (l : List Int) (a b : Int) : areF l [a, b] = (isSetB l a && isSetB l b) := by
  unfold areF
  cases h : isSetB l a
  · simp [h]
  · simp [h, isSetB_grp h]
--%call areSetsV 91 ext areSets_val _ _ _ _ _ ({0}) ({1}) ({2})
theorem areSets_val (v u : Value) (l xs : List Int) (w : World) (h : Ints w v l) (k : Ints w u xs) {b : Bool} (hb : areF l xs = b) :
    Calls Tryz.prog 91 #[.agg #[v], u] w fun e w' => e = .returned (.bool b) ∧ Ext w w' := by
  subst hb; exact areSets_any v u l xs w h k
/-- whether the shifts of a by x fill the group -/
def covF (l : List Int) (a x : Int) : Bool := isSetB l a && isSetB l x && decide ((sumF l a.toNat x.toNat : Int) = fullF l)
theorem covF_no {l : List Int} {a x : Int} (h : (isSetB l a && isSetB l x) = false) : covF l a x = false := by unfold covF; rw [h]; rfl
theorem covF_yes {l : List Int} {a x : Nat} (h : (isSetB l a && isSetB l x) = true) : covF l a x = ((sumF l a x : Int) == fullF l) := by
  unfold covF; rw [h, Bool.eq_iff_iff]; simp
end Go.Zz

/- Coverings (the reference), small doubling, sizes of intersections. -/
namespace Go.Zz
open Go.RowKit Go.Proofs
set_option maxHeartbeats 400000
--%call IsSetV 32 ext IsSet_val _ _ _ _ ({0}) ({1})
theorem IsSet_val (v : Value) (l : List Int) (a : Int) (w : World) (h : Ints w v l) {b : Bool} (hb : isSetB l a = b) :
    Calls Tryz.prog 32 #[.agg #[v], .int .i64 a] w fun e w' => e = .returned (.bool b) ∧ Ext w w' := by
  subst hb; exact IsSet_any v l a w h
--%call sIsSetV 16 ext sIsSet_val _ _ _ _ ({0}) ({1})
theorem sIsSet_val (v : Value) (l : List Int) (a : Int) (w : World) (h : Ints w v l) {b : Bool} (hb : isSetB l a = b) :
    Calls Tryz.prog 16 #[.agg #[v], .int .i64 a] w fun e w' => e = .returned (.bool b) ∧ Ext w w' := by
  subst hb; exact sIsSet_any v l a w h




/-- whether twice the size of a + a is less than three times that of a -/
def smallF (l : List Int) (a : Int) : Bool := isSetB l a && decide (a ≠ 0) && decide (2 * cnt (sumF l a.toNat a.toNat) < 3 * cnt a.toNat)
theorem smallF_no {l : List Int} {a : Int} (h : isSetB l a = false) : smallF l a = false := by unfold smallF; rw [h]; rfl
theorem smallF_zero (l : List Int) : smallF l 0 = false := by unfold smallF; simp
theorem smallF_yes {l : List Int} {n : Nat} (h : isSetB l n = true) (h0 : 0 < n) : smallF l n = decide (2 * (cnt (sumF l n n) : Int) < 3 * (cnt n : Int)) := by
  unfold smallF
  rw [h, Bool.eq_iff_iff]
  simp
  omega
--%call IsSmallDoubling 8 ext IsSmallDoubling_any _ _ _ _ ({0})
theorem IsSmallDoubling_any (v : Value) (l : List Int) (a : Int) (w : World) (h : Ints w v l) :
    Calls Tryz.prog 8 #[.agg #[v], .int .i64 a] w fun e w' => e = .returned (.bool (smallF l a)) ∧ Ext w w' := by
  have hE0 := (Ext.refl w).alloc (.cells #[v] 26)
  have hE := Ext.refl (w.alloc (.cells #[v] 26))
  have hb := box_cell w v 26
  have hg : ∀ W, Ext (w.alloc (.cells #[v] 26)) W → Ints W v l := fun W hW => h.ext (hE0.trans hW)
  clear h
  cases hs : isSetB l a
  · have Hs := Lib.hid (smallF_no hs)
    go_enter Tryz.func8, Tryz.ntmps8
    go_wp2_with (first | (go_at_call 32; refine (IsSet_any _ _ _ _ (hg _ hE)).mono ?_; rintro e w' ⟨rfl, hE'⟩; replace hE := hE.trans hE'; clear hE'))
    go_ret
    exact ⟨ret_bool Hs.out.symm, hE0.trans hE⟩
  · obtain ⟨n, rfl, h1, h2, h3⟩ := isSetB_nat hs
    by_cases h0 : n = 0
    · subst h0
      go_enter Tryz.func8, Tryz.ntmps8
      go_wp2_with (first | (go_at_call 32; refine (IsSet_any _ _ _ _ (hg _ hE)).mono ?_; rintro e w' ⟨rfl, hE'⟩; replace hE := hE.trans hE'; clear hE'))
      go_ret
      exact ⟨ret_bool (smallF_zero l).symm, hE0.trans hE⟩
    · have h0' : ((n : Int) != 0) = true := by simp; omega
      have h0'' : 0 < (n : Int) := by omega
      have hm := Lib.hid (smallF_yes hs (by omega))
      have c1 := cnt_le (sumF l n n)
      have c2 := cnt_le n
      have h4 := sumF_bd h3 n n
      have h3' := Lib.hid h3
      clear h3
      go_enter Tryz.func8, Tryz.ntmps8
      go_wp2_with (first | (go_at_call 32; refine (IsSet_any _ _ _ _ (hg _ hE)).mono ?_; rintro e w' ⟨rfl, hE'⟩; replace hE := hE.trans hE'; clear hE') | (go_at_call 28; refine (sum_any _ _ _ _ _ (hg _ hE) (h3') (h2) (h2)).mono ?_; rintro e w' ⟨rfl, hE'⟩; replace hE := hE.trans hE'; clear hE') | (go_at_call 33; first | (with_reducible refine (bits_any _ h4 _).mono ?_; rintro e w' ⟨rfl, rfl⟩) | (with_reducible refine (bits_any _ h2 _).mono ?_; rintro e w' ⟨rfl, rfl⟩)))
      go_ret
      exact ⟨ret_bool hm.out.symm, hE0.trans hE⟩
--%call sIsSmallDoubling 29 ext sIsSmallDoubling_any _ _ _ _ ({0})
theorem sIsSmallDoubling_any (v : Value) (l : List Int) (a : Int) (w : World) (h : Ints w v l) :
    Calls Tryz.prog 29 #[.agg #[v], .int .i64 a] w fun e w' => e = .returned (.bool (smallF l a)) ∧ Ext w w' := by
  have hE0 := (Ext.refl w).alloc (.cells #[v] 26)
  have hE := Ext.refl (w.alloc (.cells #[v] 26))
  have hb := box_cell w v 26
  have hg : ∀ W, Ext (w.alloc (.cells #[v] 26)) W → Ints W v l := fun W hW => h.ext (hE0.trans hW)
  clear h
  cases hs : isSetB l a
  · have Hs := Lib.hid (smallF_no hs)
    go_enter Tryz.func29, Tryz.ntmps29
    go_wp2_with (first | (go_at_call 16; refine (sIsSet_any _ _ _ _ (hg _ hE)).mono ?_; rintro e w' ⟨rfl, hE'⟩; replace hE := hE.trans hE'; clear hE'))
    go_ret
    exact ⟨ret_bool Hs.out.symm, hE0.trans hE⟩
  · obtain ⟨n, rfl, h1, h2, h3⟩ := isSetB_nat hs
    by_cases h0 : n = 0
    · subst h0
      go_enter Tryz.func29, Tryz.ntmps29
      go_wp2_with (first | (go_at_call 16; refine (sIsSet_any _ _ _ _ (hg _ hE)).mono ?_; rintro e w' ⟨rfl, hE'⟩; replace hE := hE.trans hE'; clear hE'))
      go_ret
      exact ⟨ret_bool (smallF_zero l).symm, hE0.trans hE⟩
    · have h0' : ((n : Int) != 0) = true := by simp; omega
      have h0'' : 0 < (n : Int) := by omega
      have hm := Lib.hid (smallF_yes hs (by omega))
      have c1 := cnt_le (sumF l n n)
      have c2 := cnt_le n
      have h4 := sumF_bd h3 n n
      have h3' := Lib.hid h3
      clear h3
      go_enter Tryz.func29, Tryz.ntmps29
      go_wp2_with (first | (go_at_call 16; refine (sIsSet_any _ _ _ _ (hg _ hE)).mono ?_; rintro e w' ⟨rfl, hE'⟩; replace hE := hE.trans hE'; clear hE') | (go_at_call 31; refine (l4Sum_any _ _ _ _ _ (hg _ hE) (h3') (h2) (h2)).mono ?_; rintro e w' ⟨rfl, hE'⟩; replace hE := hE.trans hE'; clear hE') | (go_at_call 36; first | (with_reducible refine (l3Bits_any _ h4 _).mono ?_; rintro e w' ⟨rfl, rfl⟩) | (with_reducible refine (l3Bits_any _ h2 _).mono ?_; rintro e w' ⟨rfl, rfl⟩)))
      go_ret
      exact ⟨ret_bool hm.out.symm, hE0.trans hE⟩

/-- the sizes of the intersections of a with the shifts of b -/
def interTo (l : List Int) (a b k : Nat) : List Int := castL ((List.range k).map (fun x => cnt (a &&& shiftF l b x)))
def interF (l : List Int) (a b : Int) : List Int := if isSetB l a && isSetB l b then interTo l a.toNat b.toNat (ord l) else []
theorem interTo_zero (l : List Int) (a b : Nat) : interTo l a b 0 = [] := rfl
theorem interTo_succ (l : List Int) (a b k : Nat) : interTo l a b (k + 1) = interTo l a b k ++ [(cnt (a &&& shiftF l b k) : Int)] := by
  unfold interTo; rw [List.range_succ, List.map_append]; exact castL_snoc _ _
theorem interTo_len (l : List Int) (a b k : Nat) : (interTo l a b k).length = k := by simp [interTo, castL]
theorem interF_no {l : List Int} {a b : Int} (h : (isSetB l a && isSetB l b) = false) : interF l a b = [] := by unfold interF; rw [h]; rfl
theorem interF_yes {l : List Int} {a b : Nat} (h : (isSetB l a && isSetB l b) = true) : interF l a b = interTo l a b (ord l) := by unfold interF; rw [h]; rfl
end Go.Zz

/- The table of sums: how often each element is a sum. Plain laws. -/
namespace Go.Zz
open Go.RowKit Go.Proofs
set_option maxHeartbeats 400000

/-- one more at a place -/
def bump (t : List Int) (z : Nat) : List Int := t.set z (nth t z + 1)
theorem bump_len (t : List Int) (z : Nat) : (bump t z).length = t.length := by simp [bump]
def tabIn (l : List Int) (x : Nat) (t : List Int) (L : List Nat) : List Int := L.foldl (fun t y => bump t (addF l x y)) t
def tabOut (l : List Int) (b : Nat) (t : List Int) (L : List Nat) : List Int := L.foldl (fun t x => tabIn l x t (elems b)) t
theorem tabIn_snoc (l : List Int) (x : Nat) (t : List Int) (L : List Nat) (y : Nat) : tabIn l x t (L ++ [y]) = bump (tabIn l x t L) (addF l x y) := by
  unfold tabIn; rw [List.foldl_append]; rfl
theorem tabOut_snoc (l : List Int) (b : Nat) (t : List Int) (L : List Nat) (x : Nat) : tabOut l b t (L ++ [x]) = tabIn l x (tabOut l b t L) (elems b) := by
  unfold tabOut; rw [List.foldl_append]; rfl
theorem nth_bump (t : List Int) (z i : Nat) (hz : z < t.length) : nth (bump t z) i = if i = z then nth t z + 1 else nth t i := by
  unfold bump nth
  simp only [List.getD_eq_getElem?_getD, List.getElem?_set]
  by_cases h : i = z
  · subst h; simp [hz]
  · have h' : ¬ z = i := fun e => h e.symm
    simp [h, h']
/-- every count lies between 0 and B -/
def Upto (t : List Int) (B : Int) : Prop := ∀ i, 0 ≤ nth t i ∧ nth t i ≤ B
theorem Upto.bump {t : List Int} {B : Int} (h : Upto t B) {z : Nat} (hz : z < t.length) : Upto (bump t z) (B + 1) := fun i => by
  rw [nth_bump t z i hz]
  have h1 := h z
  have h2 := h i
  split <;> omega
theorem Upto.zeros (n : Nat) : Upto (List.replicate n 0) 0 := fun i => by
  unfold nth
  simp only [List.getD_eq_getElem?_getD, List.getElem?_replicate]
  split <;> simp
def tabF (l : List Int) (a b : Int) : List Int := if isSetB l a && isSetB l b then tabOut l b.toNat (List.replicate (ord l) 0) (elems a.toNat) else []
theorem tabF_no {l : List Int} {a b : Int} (h : (isSetB l a && isSetB l b) = false) : tabF l a b = [] := by unfold tabF; rw [h]; rfl
theorem tabF_yes {l : List Int} {a b : Nat} (h : (isSetB l a && isSetB l b) = true) : tabF l a b = tabOut l b (List.replicate (ord l) 0) (elems a) := by unfold tabF; rw [h]; rfl
end Go.Zz

/- Plain laws: what the table of sums holds, and how it changes. -/
namespace Go.Zz
open Go.RowKit Go.Proofs
set_option maxHeartbeats 400000

def bumps (t : List Int) (S : List Nat) : List Int := S.foldl bump t
theorem bumps_len : ∀ (S : List Nat) (t : List Int), (bumps t S).length = t.length
  | [], _ => rfl
  | z :: S, t => by show (bumps (bump t z) S).length = _; rw [bumps_len S, bump_len]
theorem nth_bumps : ∀ (S : List Nat) (t : List Int) (z : Nat), (∀ x ∈ S, x < t.length) → nth (bumps t S) z = nth t z + (S.count z : Int)
  | [], t, z, _ => by simp [bumps]
  | x :: S, t, z, h => by
    show nth (bumps (bump t x) S) z = _
    rw [nth_bumps S _ z (fun y hy => by rw [bump_len]; exact h y (by simp [hy])), nth_bump t x z (h x (by simp)), List.count_cons]
    by_cases e : z = x
    · subst e; simp; omega
    · have e' : ¬ x = z := fun h => e h.symm
      simp [e, e']
def sumsL (l : List Int) (L M : List Nat) : List Nat := L.flatMap (fun x => M.map (fun y => addF l x y))
theorem bumps_append (t : List Int) (A B : List Nat) : bumps t (A ++ B) = bumps (bumps t A) B := by unfold bumps; rw [List.foldl_append]
theorem tabIn_bumps (l : List Int) (x : Nat) (t : List Int) (L : List Nat) : tabIn l x t L = bumps t (L.map (fun y => addF l x y)) := by
  unfold tabIn bumps; rw [List.foldl_map]
theorem tabOut_bumps (l : List Int) (b : Nat) : ∀ (L : List Nat) (t : List Int), tabOut l b t L = bumps t (sumsL l L (elems b))
  | [], _ => rfl
  | x :: L, t => by
    show tabOut l b (tabIn l x t (elems b)) L = _
    rw [tabOut_bumps l b L, tabIn_bumps]
    unfold sumsL; rw [List.flatMap_cons, bumps_append]
def tabN (l : List Int) (a b : Nat) : List Int := tabOut l b (List.replicate (ord l) 0) (elems a)
theorem tabN_len (l : List Int) (a b : Nat) : (tabN l a b).length = ord l := by unfold tabN; rw [tabOut_bumps, bumps_len]; simp
theorem sumsL_lt {l : List Int} (h : isGrp l = true) {L M : List Nat} : ∀ x ∈ sumsL l L M, x < ord l := by
  intro x hx
  obtain ⟨u, _, hv⟩ := List.mem_flatMap.1 hx
  obtain ⟨y, _, rfl⟩ := List.mem_map.1 hv
  exact addF_lt l (isGrp_ords h) _ _
theorem nth_zeros (n i : Nat) : nth (List.replicate n 0) i = 0 := by
  unfold nth
  simp only [List.getD_eq_getElem?_getD, List.getElem?_replicate]
  split <;> simp
theorem nth_tabN {l : List Int} (h : isGrp l = true) (a b z : Nat) : nth (tabN l a b) z = ((sumsL l (elems a) (elems b)).count z : Int) := by
  unfold tabN
  rw [tabOut_bumps, nth_bumps _ _ _ (by intro x hx; rw [List.length_replicate]; exact sumsL_lt h x hx), nth_zeros]; simp
/-- how often z is a sum -/
def cN (l : List Int) (L M : List Nat) (z : Nat) : Nat := (sumsL l L M).count z
theorem cN_cons (l : List Int) (x : Nat) (L M : List Nat) (z : Nat) : cN l (x :: L) M z = (M.map (fun y => addF l x y)).count z + cN l L M z := by
  unfold cN sumsL; rw [List.flatMap_cons, List.count_append]
theorem cN_cons_right (l : List Int) (x : Nat) (M : List Nat) (z : Nat) : ∀ L : List Nat, cN l L (x :: M) z = (L.map (fun u => addF l u x)).count z + cN l L M z
  | [] => by simp [cN, sumsL]
  | u :: L => by
    rw [cN_cons, cN_cons, cN_cons_right l x M z L, List.map_cons, List.map_cons, List.count_cons, List.count_cons]; omega
theorem cN_perm {l : List Int} {L L' M M' : List Nat} (hL : L.Perm L') (hM : M.Perm M') (z : Nat) : cN l L M z = cN l L' M' z := by
  have h1 : cN l L M z = cN l L' M z := (hL.flatMap_right _).count_eq z
  rw [h1]
  have h2 : ∀ K : List Nat, cN l K M z = cN l K M' z := by
    intro K
    induction K with
    | nil => rfl
    | cons u K ih => rw [cN_cons, cN_cons, ih, (hM.map _).count_eq z]
  exact h2 L'
theorem elems_put {a x : Nat} (hx : x < 24) (h : a.testBit x = false) : (elems (a ||| 2 ^ x)).Perm (x :: elems a) := by
  rw [List.perm_ext_iff_of_nodup (elems_nodup _) (List.nodup_cons.2 ⟨(fun e => absurd (mem_elems.1 e).2 (by rw [h]; simp)), elems_nodup a⟩)]
  intro i
  rw [mem_elems, List.mem_cons, mem_elems, Nat.testBit_or, Nat.testBit_two_pow]
  by_cases e : i = x
  · subst e; simp [hx]
  · have e' : ¬ x = i := fun h => e h.symm
    simp [e, e']
theorem cN_put {l : List Int} {a x : Nat} (hx : x < 24) (h : a.testBit x = false) (z : Nat) :
    cN l (elems (a ||| 2 ^ x)) (elems (a ||| 2 ^ x)) z = cN l (elems a) (elems a) z + 2 * ((elems a).map (fun y => addF l x y)).count z + (if addF l x x = z then 1 else 0) := by
  have hp := elems_put hx h
  rw [cN_perm hp hp, cN_cons, cN_cons_right, List.map_cons, List.count_cons]
  have e : (elems a).map (fun u => addF l u x) = (elems a).map (fun y => addF l x y) := by
    apply List.map_congr_left; intro u _; exact addF_comm l u x
  rw [e]
  by_cases e2 : addF l x x = z
  · simp [e2]; omega
  · simp [e2]; omega
/-- an amount is added at a place -/
def bumpN (t : List Int) (z : Nat) (m : Int) : List Int := t.set z (nth t z + m)
theorem bumpN_len (t : List Int) (z : Nat) (m : Int) : (bumpN t z m).length = t.length := by simp [bumpN]
theorem nth_bumpN (t : List Int) (z i : Nat) (m : Int) (hz : z < t.length) : nth (bumpN t z m) i = if i = z then nth t z + m else nth t i := by
  unfold bumpN nth
  simp only [List.getD_eq_getElem?_getD, List.getElem?_set]
  by_cases h : i = z
  · subst h; simp [hz]
  · have h' : ¬ z = i := fun e => h e.symm
    simp [h, h']
def chgL (l : List Int) (x : Nat) (n : Int) (t : List Int) (L : List Nat) : List Int := L.foldl (fun t y => bumpN t (addF l x y) (2 * n)) t
theorem chgL_snoc (l : List Int) (x : Nat) (n : Int) (t : List Int) (L : List Nat) (y : Nat) : chgL l x n t (L ++ [y]) = bumpN (chgL l x n t L) (addF l x y) (2 * n) := by
  unfold chgL; rw [List.foldl_append]; rfl
theorem chgL_len (l : List Int) (x : Nat) (n : Int) : ∀ (L : List Nat) (t : List Int), (chgL l x n t L).length = t.length
  | [], _ => rfl
  | y :: L, t => by show (chgL l x n (bumpN t (addF l x y) (2 * n)) L).length = _; rw [chgL_len l x n L, bumpN_len]
theorem nth_chgL {l : List Int} (h : isGrp l = true) (x : Nat) (n : Int) (z : Nat) : ∀ (L : List Nat) (t : List Int), t.length = ord l → nth (chgL l x n t L) z = nth t z + 2 * n * ((L.map (fun y => addF l x y)).count z : Int)
  | [], t, _ => by simp [chgL]
  | y :: L, t, hl => by
    have hz : addF l x y < t.length := by rw [hl]; exact addF_lt l (isGrp_ords h) _ _
    show nth (chgL l x n (bumpN t (addF l x y) (2 * n)) L) z = _
    rw [nth_chgL h x n z L _ (by rw [bumpN_len]; exact hl), nth_bumpN _ _ _ _ hz, List.map_cons, List.count_cons]
    by_cases e : z = addF l x y
    · subst e; simp [Int.mul_add]; omega
    · have e' : ¬ addF l x y = z := fun h => e h.symm
      simp [e, e']
def chgF (l : List Int) (x : Nat) (n : Int) (t : List Int) (L : List Nat) : List Int := bumpN (chgL l x n t L) (addF l x x) n
theorem chgF_len (l : List Int) (x : Nat) (n : Int) (t : List Int) (L : List Nat) : (chgF l x n t L).length = t.length := by unfold chgF; rw [bumpN_len, chgL_len]
theorem nth_chgF {l : List Int} (h : isGrp l = true) (x : Nat) (n : Int) (z : Nat) (L : List Nat) (t : List Int) (hl : t.length = ord l) :
    nth (chgF l x n t L) z = nth t z + 2 * n * ((L.map (fun y => addF l x y)).count z : Int) + (if addF l x x = z then n else 0) := by
  have hz : addF l x x < (chgL l x n t L).length := by rw [chgL_len, hl]; exact addF_lt l (isGrp_ords h) _ _
  unfold chgF
  rw [nth_bumpN _ _ _ _ hz]
  by_cases e : z = addF l x x
  · subst e; rw [nth_chgL h x n _ L t hl]; simp
  · have e' : ¬ addF l x x = z := fun h => e h.symm
    rw [if_neg e, if_neg e', nth_chgL h x n z L t hl]; omega
theorem tab_put {l : List Int} (h : isGrp l = true) {a x : Nat} (hx : x < 24) (hb : a.testBit x = false) : chgF l x 1 (tabN l a a) (elems a) = tabN l (a ||| 2 ^ x) (a ||| 2 ^ x) := by
  refine ext_nth (by rw [chgF_len, tabN_len, tabN_len]) fun z _ => ?_
  rw [nth_chgF h x 1 z _ _ (tabN_len l a a), nth_tabN h, nth_tabN h]
  have := cN_put (l := l) hx hb z
  unfold cN at this
  rw [this]
  push_cast
  by_cases e : addF l x x = z <;> simp [e]
theorem put_back {a x : Nat} (hb : a.testBit x = true) : andN a (2 ^ x) ||| 2 ^ x = a := by
  apply Nat.eq_of_testBit_eq; intro i
  rw [Nat.testBit_or, andN_bit, Nat.testBit_two_pow]
  by_cases e : x = i
  · subst e; simp [hb]
  · simp [e]
theorem andN_self_bit (a x : Nat) : (andN a (2 ^ x)).testBit x = false := by rw [andN_bit, Nat.testBit_two_pow]; simp
theorem tab_take {l : List Int} (h : isGrp l = true) {a x : Nat} (hx : x < 24) (hb : a.testBit x = true) : chgF l x (-1) (tabN l a a) (elems (andN a (2 ^ x))) = tabN l (andN a (2 ^ x)) (andN a (2 ^ x)) := by
  refine ext_nth (by rw [chgF_len, tabN_len, tabN_len]) fun z _ => ?_
  rw [nth_chgF h x (-1) z _ _ (tabN_len l a a), nth_tabN h, nth_tabN h]
  have := cN_put (l := l) hx (andN_self_bit a x) z
  rw [put_back hb] at this
  unfold cN at this
  rw [this]
  push_cast
  by_cases e : addF l x x = z <;> simp [e] <;> omega
theorem andN_none {a x : Nat} (hb : a.testBit x = false) : andN a (2 ^ x) = a := by
  apply Nat.eq_of_testBit_eq; intro i
  rw [andN_bit, Nat.testBit_two_pow]
  by_cases e : x = i
  · subst e; simp [hb]
  · simp [e]
/-- the places of positive numbers below k -/
def posTo (t : List Int) (k : Nat) : Nat := bset ((List.range k).filter (fun i => decide (0 < nth t i)))
theorem posTo_zero (t : List Int) : posTo t 0 = 0 := rfl
theorem posTo_yes {t : List Int} {k : Nat} (h : 0 < nth t k) : posTo t (k + 1) = posTo t k ||| 2 ^ k := by
  unfold posTo; rw [List.range_succ, List.filter_append]; simp only [List.filter_cons, List.filter_nil, h, decide_true, if_true]; exact bset_snoc _ _
theorem posTo_no {t : List Int} {k : Nat} (h : ¬ 0 < nth t k) : posTo t (k + 1) = posTo t k := by
  unfold posTo; rw [List.range_succ, List.filter_append]; simp [h]
theorem posTo_lt (t : List Int) (k : Nat) : posTo t k < 2 ^ k := by
  refine bset_lt fun x hx => ?_
  exact List.mem_range.1 (List.mem_filter.1 hx).1
theorem posTo_tab {l : List Int} (h : isGrp l = true) (a b : Nat) : posTo (tabN l a b) (ord l) = sumF l a b := by
  apply Nat.eq_of_testBit_eq; intro z
  refine bool_eq_of ?_
  unfold posTo
  rw [testBit_bset, decide_eq_true_iff, List.mem_filter, decide_eq_true_iff, nth_tabN h, testBit_sumF, List.mem_range]
  have e : 0 < ((sumsL l (elems a) (elems b)).count z : Int) ↔ z ∈ sumsL l (elems a) (elems b) := by
    rw [← List.count_pos_iff]; omega
  rw [e]
  constructor
  · rintro ⟨_, hz⟩
    obtain ⟨x, hx, hv⟩ := List.mem_flatMap.1 hz
    obtain ⟨y, hy, rfl⟩ := List.mem_map.1 hv
    exact ⟨x, y, (mem_elems.1 hx).1, (mem_elems.1 hx).2, (mem_elems.1 hy).1, (mem_elems.1 hy).2, rfl⟩
  · rintro ⟨x, y, h1, h2, h3, h4, rfl⟩
    exact ⟨addF_lt l (isGrp_ords h) _ _, List.mem_flatMap.2 ⟨x, mem_elems.2 ⟨h1, h2⟩, List.mem_map.2 ⟨y, mem_elems.2 ⟨h3, h4⟩, rfl⟩⟩⟩
/-- the sum of the squares of the first k -/
def sqTo (t : List Int) : Nat → Int
  | 0 => 0
  | k + 1 => sqTo t k + nth t k * nth t k
theorem sqTo_succ (t : List Int) (k : Nat) : sqTo t (k + 1) = sqTo t k + nth t k * nth t k := rfl
theorem sums_len (L M : List Nat) (l : List Int) : (sumsL l L M).length = L.length * M.length := by
  unfold sumsL
  induction L with
  | nil => simp
  | cons x L ih => rw [List.flatMap_cons, List.length_append, ih, List.length_map, List.length_cons, Nat.succ_mul]; omega
theorem tabN_bd {l : List Int} (h : isGrp l = true) (a b z : Nat) : 0 ≤ nth (tabN l a b) z ∧ nth (tabN l a b) z ≤ 576 := by
  rw [nth_tabN h]
  have h1 := List.count_le_length (a := z) (l := sumsL l (elems a) (elems b))
  rw [sums_len] at h1
  have h2 : (elems a).length * (elems b).length ≤ 24 * 24 := Nat.mul_le_mul (elems_len a) (elems_len b)
  omega
theorem sq_bd {x : Int} (h0 : 0 ≤ x) (h : x ≤ 576) : 0 ≤ x * x ∧ x * x ≤ 331776 :=
  ⟨Int.mul_nonneg h0 h0, by have := Int.mul_le_mul h h h0 (by omega : (0:Int) ≤ 576); omega⟩
theorem sqTo_bd {l : List Int} (h : isGrp l = true) (a b : Nat) : ∀ k, 0 ≤ sqTo (tabN l a b) k ∧ sqTo (tabN l a b) k ≤ 331776 * k
  | 0 => by simp [sqTo]
  | k + 1 => by
    have ih := sqTo_bd h a b k
    obtain ⟨h1, h2⟩ := tabN_bd h a b k
    have := sq_bd h1 h2
    rw [sqTo_succ]; push_cast; omega
theorem tabF_N {l : List Int} {a b : Nat} (h : (isSetB l a && isSetB l b) = true) : tabF l a b = tabN l a b := tabF_yes h
/-- whether counts are those that are kept -/
def keptB (l : List Int) (n : Int) (m : List Int) : Bool := isSetB l n && decide (m = tabF l n n)
theorem keptB_no {l : List Int} {n : Int} {m : List Int} (h : isSetB l n = false) : keptB l n m = false := by unfold keptB; rw [h]; rfl
theorem keptB_yes {l : List Int} {n : Int} {m : List Int} (h : isSetB l n = true) : keptB l n m = decide (m = tabF l n n) := by unfold keptB; rw [h]; rfl
theorem keptB_nat {l : List Int} {n : Int} {m : List Int} (h : keptB l n m = true) : ∃ a : Nat, n = a ∧ a < 2 ^ ord l ∧ a < 2 ^ 24 ∧ isGrp l = true ∧ m = tabN l a a ∧ isSetB l a = true := by
  unfold keptB at h
  obtain ⟨h1, h2⟩ := Bool.and_eq_true_iff.1 h
  obtain ⟨a, rfl, h3, h4, h5⟩ := isSetB_nat h1
  exact ⟨a, rfl, h3, h4, h5, by rw [of_decide_eq_true h2, tabF_N (by rw [h1]; rfl)], h1⟩
def engF (l : List Int) (n : Int) (m : List Int) : Int := if keptB l n m then sqTo m (ord l) else -1
theorem engF_no {l : List Int} {n : Int} {m : List Int} (h : keptB l n m = false) : engF l n m = -1 := by unfold engF; rw [h]; rfl
theorem engF_yes {l : List Int} {n : Int} {m : List Int} (h : keptB l n m = true) : engF l n m = sqTo m (ord l) := by unfold engF; rw [if_pos h]
def sukF (l : List Int) (n : Int) (m : List Int) : Int := if keptB l n m then (sumF l n.toNat n.toNat : Int) else -1
theorem sukF_no {l : List Int} {n : Int} {m : List Int} (h : keptB l n m = false) : sukF l n m = -1 := by unfold sukF; rw [h]; rfl
theorem sukF_yes {l : List Int} {a : Nat} {m : List Int} (h : keptB l a m = true) : sukF l a m = (sumF l a a : Int) := by unfold sukF; rw [if_pos h]; rfl
end Go.Zz

/- The greedy translates. -/
namespace Go.Zz
open Go.RowKit Go.Proofs
set_option maxHeartbeats 400000

theorem fullF_n {l : List Int} (h : isGrp l = true) : fullF l = (fullN l : Int) := by
  rw [fullF_t h]; unfold fullN; have := pw_pos (ord l); omega
--%call FullSetN 41 ext FullSet_grp _ _ _ ({0}) ({1})
theorem FullSet_grp (v : Value) (l : List Int) (w : World) (h : Ints w v l) (Hgr : Hid (isGrp l = true)) :
    Calls Tryz.prog 41 #[.agg #[v]] w fun e w' => e = .returned (.int .i64 (fullN l)) ∧ Ext w w' := by
  rw [← fullF_n Hgr.out]; exact FullSet_any v l w h
--%call OrderOfN 70 ext OrderOf_grp _ _ _ ({0}) ({1})
theorem OrderOf_grp (v : Value) (l : List Int) (w : World) (h : Ints w v l) (Hgr : Hid (isGrp l = true)) :
    Calls Tryz.prog 70 #[.agg #[v]] w fun e w' => e = .returned (.int .i64 (ord l : Int)) ∧ Ext w w' := by
  rw [← ordF_t Hgr.out]; exact OrderOf_any v l w h


theorem andN_int {l : List Int} {a b : Nat} (h : a < 2 ^ ord l) : (a : Int) - ((a &&& b : Nat) : Int) = ((andN a b : Nat) : Int) := by
  have := andN_sub (ord l) a b h; omega
end Go.Zz

/- Extremal sums: the sets of a size, the greatest and the least double. -/
namespace Go.Zz
open Go.RowKit Go.Proofs
set_option maxHeartbeats 400000

/-- the sets with 0 of n elements among the first j odd numbers -/
def oddTo (n j : Nat) : List Nat := ((List.range j).map (fun i => 2 * i + 1)).filter (fun a => decide (cnt a = n))
def halfN (l : List Int) : Nat := pw (ord l - 1)
theorem oddTo_zero (n : Nat) : oddTo n 0 = [] := rfl
theorem oddTo_yes {n j : Nat} (h : cnt (2 * j + 1) = n) : oddTo n (j + 1) = oddTo n j ++ [2 * j + 1] := by
  unfold oddTo; rw [List.range_succ, List.map_append, List.filter_append]; simp [h]
theorem oddTo_no {n j : Nat} (h : ¬ cnt (2 * j + 1) = n) : oddTo n (j + 1) = oddTo n j := by
  unfold oddTo; rw [List.range_succ, List.map_append, List.filter_append]; simp [h]
theorem oddTo_len (n j : Nat) : (oddTo n j).length ≤ j := by
  unfold oddTo; refine Nat.le_trans (List.length_filter_le _ _) (by simp)
theorem oddTo_mem {n j a : Nat} (h : a ∈ oddTo n j) : a < 2 * j ∧ 0 < a := by
  unfold oddTo at h
  obtain ⟨h1, _⟩ := List.mem_filter.1 h
  obtain ⟨i, hi, rfl⟩ := List.mem_map.1 h1
  have := List.mem_range.1 hi
  omega
theorem halfN_two {l : List Int} (h : isGrp l = true) : 2 * halfN l = if ord l = 1 then 2 else pw (ord l) := by
  have h1 := (ord_bd h).1
  unfold halfN pw
  by_cases e : ord l = 1
  · rw [if_pos e, e]
  · rw [if_neg e]
    obtain ⟨m, hm⟩ : ∃ m, ord l = m + 1 := ⟨ord l - 1, by omega⟩
    rw [hm, Nat.add_sub_cancel, Nat.pow_succ]; omega
/-- the odd numbers below 2 ^ order -/
theorem halfN_lt {l : List Int} (h : isGrp l = true) (j : Nat) : 2 * j + 1 < pw (ord l) ↔ j < halfN l := by
  have h1 := (ord_bd h).1
  obtain ⟨m, hm⟩ : ∃ m, ord l = m + 1 := ⟨ord l - 1, by omega⟩
  unfold halfN pw
  rw [hm, Nat.add_sub_cancel, Nat.pow_succ]; omega
theorem halfN_bd {l : List Int} (h : isGrp l = true) : halfN l ≤ 8388608 := by
  unfold halfN pw
  exact Nat.le_trans (Nat.pow_le_pow_right (n := 2) (by omega) (show ord l - 1 ≤ 23 by have := (ord_bd h).2; omega)) (by decide)
theorem oddTo_bd {l : List Int} (h : isGrp l = true) {n a : Nat} (ha : a ∈ oddTo n (halfN l)) : a < 2 ^ 24 := by
  have := (oddTo_mem ha).1; have := halfN_bd h; omega


/-- arguments that the extremal doubles take -/
def dblB (l : List Int) (n : Int) : Bool := isGrp l && decide (ord l ≤ 12) && inB n 1 (ord l)
theorem dblB_grp {l : List Int} {n : Int} (h : isGrp l = false) : dblB l n = false := by unfold dblB; rw [h]; rfl
theorem dblB_ord {l : List Int} {n : Int} (h : ¬ ord l ≤ 12) : dblB l n = false := by unfold dblB; simp [h]
theorem dblB_n {l : List Int} {n : Int} (h : inB n 1 (ord l) = false) : dblB l n = false := by unfold dblB; rw [h]; simp
theorem dblB_yes {l : List Int} {n : Int} (h : isGrp l = true) (h2 : ord l ≤ 12) (h3 : inB n 1 (ord l) = true) : dblB l n = true := by unfold dblB; rw [h, h3]; simp [h2]
/-- the size of a + a -/
def dblC (l : List Int) (a : Nat) : Nat := cnt (sumF l a a)
def mdF (l : List Int) (L : List Nat) : Int := L.foldl (fun b a => if b < (dblC l a : Int) then (dblC l a : Int) else b) 0
theorem mdF_nil (l : List Int) : mdF l [] = 0 := rfl
theorem mdF_snoc (l : List Int) (L : List Nat) (a : Nat) : mdF l (L ++ [a]) = if mdF l L < (dblC l a : Int) then (dblC l a : Int) else mdF l L := by unfold mdF; rw [List.foldl_append]; rfl
def mostF (l : List Int) (n : Int) : Int := if dblB l n then mdF l (oddTo n.toNat (halfN l)) else -1
theorem mostF_no {l : List Int} {n : Int} (h : dblB l n = false) : mostF l n = -1 := by unfold mostF; rw [h]; rfl
theorem mostF_yes {l : List Int} {n : Nat} (h : dblB l n = true) : mostF l n = mdF l (oddTo n (halfN l)) := by unfold mostF; rw [if_pos h]; rfl
theorem in_nat {n : Int} {o : Nat} (h : inB n 1 o = true) : ∃ m : Nat, n = m ∧ 1 ≤ m ∧ m ≤ o := by
  obtain ⟨h1, h2⟩ := inB_t.1 h
  exact ⟨n.toNat, by omega, by omega, by omega⟩


/-- the first least double, with the size that it has, from a size on -/
def ldF (l : List Int) (M : Nat) (L : List Nat) : Nat × Nat := L.foldl (fun p a => if dblC l a < p.2 then (a, dblC l a) else p) (0, M)
theorem ldF_nil (l : List Int) (M : Nat) : ldF l M [] = (0, M) := rfl
theorem ldF_yes {l : List Int} {M : Nat} {L : List Nat} {a : Nat} (h : dblC l a < (ldF l M L).2) : ldF l M (L ++ [a]) = (a, dblC l a) := by
  unfold ldF at h ⊢; rw [List.foldl_append]; simp only [List.foldl_cons, List.foldl_nil]; rw [if_pos h]
theorem ldF_no {l : List Int} {M : Nat} {L : List Nat} {a : Nat} (h : ¬ dblC l a < (ldF l M L).2) : ldF l M (L ++ [a]) = ldF l M L := by
  unfold ldF at h ⊢; rw [List.foldl_append]; simp only [List.foldl_cons, List.foldl_nil]; rw [if_neg h]
theorem ldF_any (l : List Int) {M N : Nat} (hM : ∀ a, dblC l a < M) (hN : ∀ a, dblC l a < N) : ∀ L, (ldF l M L).1 = (ldF l N L).1
  | [] => rfl
  | a :: L => by unfold ldF; simp only [List.foldl_cons, hM a, hN a, if_true]
theorem ldF_le (l : List Int) (M : Nat) (L : List Nat) : (ldF l M L).2 ≤ M := by
  unfold ldF
  suffices h : ∀ (L : List Nat) (p : Nat × Nat), (L.foldl (fun p a => if dblC l a < p.2 then (a, dblC l a) else p) p).2 ≤ p.2 from h L (0, M)
  intro L
  induction L with
  | nil => intro p; exact Nat.le_refl _
  | cons a L ih =>
    intro p
    rw [List.foldl_cons]
    refine Nat.le_trans (ih _) ?_
    by_cases h : dblC l a < p.2
    · rw [if_pos h]; exact Nat.le_of_lt h
    · rw [if_neg h]; exact Nat.le_refl _
theorem dblC_le {l : List Int} (h : isGrp l = true) (a : Nat) : dblC l a ≤ ord l := by
  unfold dblC cnt elems
  have hb := sumF_lt (isGrp_ords h) a a
  have e : (List.range 24).filter (fun i => (sumF l a a).testBit i) = (List.range (ord l)).filter (fun i => (sumF l a a).testBit i) := (elemsTo_all (ord_bd h).2 hb).symm
  rw [e]; exact Nat.le_trans (List.length_filter_le _ _) (by simp)
def leastF (l : List Int) (n : Int) : Int := if dblB l n then ((ldF l 100 (oddTo n.toNat (halfN l))).1 : Int) else 0
theorem leastF_no {l : List Int} {n : Int} (h : dblB l n = false) : leastF l n = 0 := by unfold leastF; rw [h]; rfl
theorem leastF_yes {l : List Int} {n : Nat} (h : dblB l n = true) : leastF l n = ((ldF l 100 (oddTo n (halfN l))).1 : Int) := by unfold leastF; rw [if_pos h]; rfl
end Go.Zz
