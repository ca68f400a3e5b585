/- Plain facts on tilings: the search fills the least element that is not reached yet. No program is named here. -/
import Derived.Test.YtgkojfjbfmpaaaaGr6
import Derived.Test.YtgkojfjbfmpaaaaGr8
import Derived.Test.YtgkojfjbfmpaaaaGr10
import Derived.Test.YtgkojfjbfmpaaaaGr5
import Derived.Deep.RegionHeld3
namespace Go.Zz

/-- the least i that is no bit of r -/
def lowG (r : Nat) : Nat → Nat → Nat
  | 0, e => e
  | n + 1, e => if r.testBit e then lowG r n (e + 1) else e
def lowZ (r : Nat) : Nat := lowG r 25 0
theorem lowG_is {r e : Nat} (h2 : r.testBit e = false) : ∀ n i, i ≤ e → e < i + n → (∀ j, i ≤ j → j < e → r.testBit j = true) → lowG r n i = e := by
  intro n
  induction n with
  | zero => intro i h3 h4; omega
  | succ n ih =>
    intro i h3 h4 h1
    unfold lowG
    by_cases hi : i = e
    · subst hi; rw [h2]; rfl
    · rw [h1 i (Nat.le_refl _) (by omega)]
      exact ih (i + 1) (by omega) (by omega) fun j hj hj2 => h1 j (by omega) hj2
theorem lowZ_is {r e : Nat} (h1 : ∀ j, j < e → r.testBit j = true) (h2 : r.testBit e = false) (h3 : e ≤ 24) : lowZ r = e :=
  lowG_is h2 25 0 (by omega) (by omega) fun j _ hj => h1 j hj
theorem not_full {l : List Int} {u e : Nat} (hu : u < 2 ^ ord l) (h : ∀ j, j < e → u.testBit j = true) (he : ord l ≤ e) : u = fullN l := by
  apply Nat.eq_of_testBit_eq
  intro i
  rw [fullN_bit]
  by_cases hi : i < ord l
  · rw [h i (by omega)]; simp [hi]
  · rw [testBit_ge hu (by omega)]; simp [hi]
def dF (l : List Int) (u x : Nat) : Nat := addF l (lowZ u) (negF l x)
theorem dF_lt {l : List Int} (h : isGrp l = true) (u x : Nat) : dF l u x < ord l := addF_lt l (isGrp_ords h) _ _

def tlS (l : List Int) (a : Nat) : Nat → Nat → Nat → Nat → List Nat
  | 0, _, _, _ => []
  | f + 1, u, b, m => if u = fullN l then [b] else
      (elems a).foldl (fun (out : List Nat) (x : Nat) => if out.length < m ∧ shiftF l a (dF l u x) &&& u = 0 then out ++ tlS l a f (u ||| shiftF l a (dF l u x)) (b ||| 2 ^ dF l u x) (m - out.length) else out) []
def tlSto (l : List Int) (a f u b m k : Nat) : List Nat := ((elems a).take k).foldl (fun (out : List Nat) (x : Nat) => if out.length < m ∧ shiftF l a (dF l u x) &&& u = 0 then out ++ tlS l a f (u ||| shiftF l a (dF l u x)) (b ||| 2 ^ dF l u x) (m - out.length) else out) []
theorem tlS_full {l : List Int} {a f u b m : Nat} (h : u = fullN l) : tlS l a (f + 1) u b m = [b] := by unfold tlS; rw [if_pos h]
theorem tlS_end {l : List Int} {a f u b m : Nat} (h : u ≠ fullN l) : tlS l a (f + 1) u b m = tlSto l a f u b m (elems a).length := by
  unfold tlS tlSto; rw [if_neg h, List.take_length]
theorem tlSto_zero (l : List Int) (a f u b m : Nat) : tlSto l a f u b m 0 = [] := rfl
theorem elems_take {a k : Nat} (hk : k < (elems a).length) : (elems a).take (k + 1) = (elems a).take k ++ [(elems a)[k]] := List.take_succ_eq_append_getElem hk
theorem tlSto_yes {l : List Int} {a f u b m k : Nat} (hk : k < (elems a).length) (hm : (tlSto l a f u b m k).length < m) (h : shiftF l a (dF l u (elems a)[k]) &&& u = 0) :
    tlSto l a f u b m (k + 1) = tlSto l a f u b m k ++ tlS l a f (u ||| shiftF l a (dF l u (elems a)[k])) (b ||| 2 ^ dF l u (elems a)[k]) (m - (tlSto l a f u b m k).length) := by
  unfold tlSto at hm ⊢; rw [elems_take hk, List.foldl_append]; simp only [List.foldl_cons, List.foldl_nil]; rw [if_pos ⟨hm, h⟩]
theorem tlSto_no {l : List Int} {a f u b m k : Nat} (hk : k < (elems a).length) (h : ¬ shiftF l a (dF l u (elems a)[k]) &&& u = 0) : tlSto l a f u b m (k + 1) = tlSto l a f u b m k := by
  unfold tlSto; rw [elems_take hk, List.foldl_append]; simp only [List.foldl_cons, List.foldl_nil]; rw [if_neg fun e => h e.2]
theorem tlSto_stop {l : List Int} {a f u b m k : Nat} (hm : ¬ (tlSto l a f u b m k).length < m) : ∀ d, tlSto l a f u b m (k + d) = tlSto l a f u b m k := by
  intro d
  induction d with
  | zero => rfl
  | succ d ih =>
    rw [← Nat.add_assoc]
    by_cases hk : k + d < (elems a).length
    · rw [← ih] at hm ⊢
      have e : tlSto l a f u b m (k + d + 1) = tlSto l a f u b m (k + d) := by
        unfold tlSto at hm ⊢; rw [elems_take hk, List.foldl_append]; simp only [List.foldl_cons, List.foldl_nil]; rw [if_neg fun e => hm e.1]
      rw [e]
    · rw [← ih]; unfold tlSto; rw [List.take_of_length_le (by omega), List.take_of_length_le (by omega)]
theorem tlS_stop {l : List Int} {a f u b m k : Nat} (h : u ≠ fullN l) (hk : k ≤ (elems a).length) (hm : k = (elems a).length ∨ ¬ (tlSto l a f u b m k).length < m) : tlS l a (f + 1) u b m = tlSto l a f u b m k := by
  rw [tlS_end h]
  rcases hm with rfl | hm
  · rfl
  · have := tlSto_stop hm ((elems a).length - k)
    rw [show k + ((elems a).length - k) = (elems a).length by omega] at this; exact this

def tlI (l : List Int) (a m : Nat) : Nat → Nat → Nat → List Nat → List Nat
  | 0, _, _, out => out
  | f + 1, u, b, out => if u = fullN l then out ++ [b] else
      (elems a).foldl (fun (out : List Nat) (x : Nat) => if shiftF l a (dF l u x) &&& u = 0 ∧ out.length < m then tlI l a m f (u ||| shiftF l a (dF l u x)) (b ||| 2 ^ dF l u x) out else out) out
def tlIto (l : List Int) (a m f u b : Nat) (out : List Nat) (k : Nat) : List Nat := ((elems a).take k).foldl (fun (out : List Nat) (x : Nat) => if shiftF l a (dF l u x) &&& u = 0 ∧ out.length < m then tlI l a m f (u ||| shiftF l a (dF l u x)) (b ||| 2 ^ dF l u x) out else out) out
theorem tlI_full {l : List Int} {a m f u b : Nat} {out : List Nat} (h : u = fullN l) : tlI l a m (f + 1) u b out = out ++ [b] := by unfold tlI; rw [if_pos h]
theorem tlI_end {l : List Int} {a m f u b : Nat} {out : List Nat} (h : u ≠ fullN l) : tlI l a m (f + 1) u b out = tlIto l a m f u b out (elems a).length := by
  unfold tlI tlIto; rw [if_neg h, List.take_length]
theorem tlIto_zero (l : List Int) (a m f u b : Nat) (out : List Nat) : tlIto l a m f u b out 0 = out := rfl
theorem tlIto_yes {l : List Int} {a m f u b k : Nat} {out : List Nat} (hk : k < (elems a).length) (h : shiftF l a (dF l u (elems a)[k]) &&& u = 0) (hm : (tlIto l a m f u b out k).length < m) :
    tlIto l a m f u b out (k + 1) = tlI l a m f (u ||| shiftF l a (dF l u (elems a)[k])) (b ||| 2 ^ dF l u (elems a)[k]) (tlIto l a m f u b out k) := by
  unfold tlIto at hm ⊢; rw [elems_take hk, List.foldl_append]; simp only [List.foldl_cons, List.foldl_nil]; rw [if_pos ⟨h, hm⟩]
theorem tlIto_no {l : List Int} {a m f u b k : Nat} {out : List Nat} (hk : k < (elems a).length) (h : ¬ (shiftF l a (dF l u (elems a)[k]) &&& u = 0 ∧ (tlIto l a m f u b out k).length < m)) :
    tlIto l a m f u b out (k + 1) = tlIto l a m f u b out k := by
  unfold tlIto at h ⊢; rw [elems_take hk, List.foldl_append]; simp only [List.foldl_cons, List.foldl_nil]; rw [if_neg h]
theorem tlI_eq (l : List Int) (a m : Nat) : ∀ f u b out, out.length < m → tlI l a m f u b out = out ++ tlS l a f u b (m - out.length) := by
  intro f
  induction f with
  | zero => intro u b out _; simp [tlI, tlS]
  | succ f ih =>
    intro u b out hm
    by_cases h : u = fullN l
    · rw [tlI_full h, tlS_full h]
    · unfold tlI tlS
      rw [if_neg h, if_neg h]
      have key : ∀ (L : List Nat) (oS : List Nat), L.foldl (fun (out : List Nat) (x : Nat) => if shiftF l a (dF l u x) &&& u = 0 ∧ out.length < m then tlI l a m f (u ||| shiftF l a (dF l u x)) (b ||| 2 ^ dF l u x) out else out) (out ++ oS) =
          out ++ L.foldl (fun (o : List Nat) (x : Nat) => if o.length < m - out.length ∧ shiftF l a (dF l u x) &&& u = 0 then o ++ tlS l a f (u ||| shiftF l a (dF l u x)) (b ||| 2 ^ dF l u x) (m - out.length - o.length) else o) oS := by
        intro L
        induction L with
        | nil => intro oS; rfl
        | cons x L ih2 =>
          intro oS
          simp only [List.foldl_cons]
          by_cases hs : shiftF l a (dF l u x) &&& u = 0
          · by_cases hl : oS.length < m - out.length
            · rw [if_pos ⟨hs, by rw [List.length_append]; omega⟩, if_pos ⟨hl, hs⟩, ih _ _ _ (by rw [List.length_append]; omega), List.append_assoc, List.length_append, show m - (out.length + oS.length) = m - out.length - oS.length by omega]
              exact ih2 _
            · rw [if_neg (by rw [List.length_append]; intro e; omega), if_neg fun e => hl e.1]
              exact ih2 _
          · rw [if_neg fun e => hs e.1, if_neg fun e => hs e.2]
            exact ih2 _
      have := key (elems a) []
      simpa using this
/-- a step reaches more -/
theorem tl_more {l : List Int} (hg : isGrp l = true) {a u : Nat} (ha : a ≠ 0) (ha2 : a < 2 ^ ord l) (hu : u < 2 ^ ord l) (d : Nat) (h : shiftF l a d &&& u = 0) :
    u ||| shiftF l a d < 2 ^ ord l ∧ cnt u < cnt (u ||| shiftF l a d) := by
  have hs := shiftF_lt (isGrp_ords hg) a d
  have h1 := Nat.or_lt_two_pow hu hs
  have hp := pow_ord hg
  refine ⟨h1, (sub_lt (Nat.lt_of_lt_of_le h1 hp) (fun i hi => by rw [Nat.testBit_or, hi]; rfl) fun e => ?_).2⟩
  have hc : cnt (shiftF l a d) ≠ 0 := by
    rw [cnt_shift hg ha2]
    have := cnt_pos (Nat.pos_of_ne_zero ha) (Nat.lt_of_lt_of_le ha2 hp); omega
  obtain ⟨i, hi⟩ := bit_of_pos (cnt_ne hc)
  have h3 : u.testBit i = true := by rw [e, Nat.testBit_or, hi]; simp
  have h4 : (shiftF l a d &&& u).testBit i = true := by rw [Nat.testBit_and, hi, h3]; rfl
  rw [h, Nat.zero_testBit] at h4; cases h4
def tileL (l : List Int) (a m : Nat) : List Nat := tlS l a (ord l + 1) a 1 m
theorem tlS_len (l : List Int) (a : Nat) : ∀ f u b m, 1 ≤ m → (tlS l a f u b m).length ≤ m := by
  intro f
  induction f with
  | zero => intro u b m _; simp [tlS]
  | succ f ih =>
    intro u b m hm
    unfold tlS
    split
    · simpa using hm
    · have key : ∀ (L : List Nat) (oS : List Nat), oS.length ≤ m → (L.foldl (fun (o : List Nat) (x : Nat) => if o.length < m ∧ shiftF l a (dF l u x) &&& u = 0 then o ++ tlS l a f (u ||| shiftF l a (dF l u x)) (b ||| 2 ^ dF l u x) (m - o.length) else o) oS).length ≤ m := by
        intro L
        induction L with
        | nil => intro oS h; exact h
        | cons x L ih2 =>
          intro oS h
          simp only [List.foldl_cons]
          refine ih2 _ ?_
          split
          · next h3 => have := ih (u ||| shiftF l a (dF l u x)) (b ||| 2 ^ dF l u x) (m - oS.length) (by omega); rw [List.length_append]; omega
          · exact h
      exact key _ _ (by simp)
/-- the first tile -/
def ftB (l : List Int) (a : Int) : Bool := isOneB l a && !(tileL l a.toNat 1).isEmpty
def ftV (l : List Int) (a : Int) : Int := if ftB l a then (((tileL l a.toNat 1).headD 0 : Nat) : Int) else 0
theorem ft_no {l : List Int} {a : Int} (h : isOneB l a = false) : ftB l a = false ∧ ftV l a = 0 := by
  have e : ftB l a = false := by unfold ftB; rw [h]; rfl
  exact ⟨e, by unfold ftV; rw [e]; rfl⟩
theorem ft_nil {l : List Int} {n : Nat} (h : tileL l n 1 = []) : ftB l n = false ∧ ftV l n = 0 := by
  have e : ftB l n = false := by unfold ftB; rw [show ((n : Int)).toNat = n from rfl, h]; simp
  exact ⟨e, by unfold ftV; rw [e]; rfl⟩
theorem ft_yes {l : List Int} {n : Nat} (h1 : isOneB l n = true) {x : Nat} {L : List Nat} (h : tileL l n 1 = x :: L) : ftB l n = true ∧ ftV l n = (x : Int) := by
  have e : ftB l n = true := by unfold ftB; rw [h1, show ((n : Int)).toNat = n from rfl, h]; rfl
  exact ⟨e, by unfold ftV; rw [e, show ((n : Int)).toNat = n from rfl, h]; rfl⟩
end Go.Zz

/- Plain facts on translates: least covers, greedy covers, packings, tiles; sizes of intersections are counts of differences. -/
namespace Go.Zz
open Go.RowKit Go.Proofs
set_option linter.unusedVariables false

/-! ### sizes -/
theorem and_z {a b : Nat} : a &&& b = 0 ↔ ∀ i, a.testBit i = true → b.testBit i = false := by
  constructor
  · intro h i hi
    have := congrArg (fun n => n.testBit i) h
    simp only [Nat.testBit_and, Nat.zero_testBit, hi, Bool.true_and] at this
    exact this
  · intro h
    refine Nat.eq_of_testBit_eq fun i => ?_
    rw [Nat.testBit_and, Nat.zero_testBit]
    cases ha : a.testBit i
    · rfl
    · rw [h i ha]; rfl
theorem filt_or (p q : Nat → Bool) : ∀ L : List Nat, (L.filter (fun x => p x || q x)).length + (L.filter (fun x => p x && q x)).length = (L.filter p).length + (L.filter q).length
  | [] => rfl
  | x :: L => by
    have ih := filt_or p q L
    simp only [List.filter_cons]
    cases p x <;> cases q x <;> simp <;> omega
theorem cnt_or_and (a b : Nat) : cnt (a ||| b) + cnt (a &&& b) = cnt a + cnt b := by
  have h := filt_or (fun i => a.testBit i) (fun i => b.testBit i) (List.range 24)
  unfold cnt elems
  have e1 : (fun i => (a ||| b).testBit i) = (fun i => a.testBit i || b.testBit i) := by funext i; exact Nat.testBit_or _ _ _
  have e2 : (fun i => (a &&& b).testBit i) = (fun i => a.testBit i && b.testBit i) := by funext i; exact Nat.testBit_and _ _ _
  rw [e1, e2]; exact h
theorem cnt_pow (z : Nat) : cnt (2 ^ z) ≤ 1 := by
  by_cases hz : z < 24
  · have := cnt_or_new (b := 0) (by omega) hz (by simp)
    rw [Nat.zero_or, cnt_zero] at this; omega
  · have e : elems (2 ^ z) = [] := by
      unfold elems; rw [List.filter_eq_nil_iff]; intro i hi
      have := List.mem_range.1 hi
      rw [bit_two]; simp; omega
    unfold cnt; rw [e]; simp
theorem cnt_fold : ∀ (L : List Nat) (a : Nat), cnt (L.foldl (fun a z => a ||| 2 ^ z) a) ≤ cnt a + L.length
  | [], a => Nat.le_refl _
  | z :: L, a => by
    rw [List.foldl_cons]
    have h1 := cnt_fold L (a ||| 2 ^ z)
    have h2 := cnt_or_and a (2 ^ z)
    have h3 := cnt_pow z
    rw [List.length_cons]; omega
theorem cnt_sum_le (l : List Int) (a b : Nat) : cnt (sumF l a b) ≤ cnt a * cnt b := by
  have h1 := cnt_fold (sumsL l (elems a) (elems b)) 0
  rw [cnt_zero, sums_len] at h1
  have e : sumF l a b = (sumsL l (elems a) (elems b)).foldl (fun a z => a ||| 2 ^ z) 0 := rfl
  rw [e]; unfold cnt at h1 ⊢; omega
theorem cnt_full {l : List Int} (hg : isGrp l = true) : cnt (fullN l) = ord l := by
  have hb := ord_bd hg
  have e : elems (fullN l) = elemsTo (fullN l) (ord l) := (elemsTo_all hb.2 (fullN_lt l)).symm
  unfold cnt; rw [e]; unfold elemsTo
  rw [List.filter_eq_self.2 fun i hi => by rw [fullN_bit]; simpa using hi]; simp
theorem sum_or_one {l : List Int} {a b z : Nat} (hz : z < 24) : sumF l a (b ||| 2 ^ z) = sumF l a b ||| shiftF l a z := by
  refine Nat.eq_of_testBit_eq fun i => bool_eq_of ?_
  rw [Nat.testBit_or, Bool.or_eq_true, testBit_sumF, testBit_sumF, testBit_shiftF]
  constructor
  · rintro ⟨u, v, hu, hu2, hv, hv2, e⟩
    rw [Nat.testBit_or, bit_two, Bool.or_eq_true, decide_eq_true_iff] at hv2
    rcases hv2 with q | q
    · exact Or.inl ⟨u, v, hu, hu2, hv, q, e⟩
    · subst q; exact Or.inr ⟨u, hu, hu2, by rw [addF_comm]; exact e⟩
  · rintro (⟨u, v, hu, hu2, hv, hv2, e⟩ | ⟨u, hu, hu2, e⟩)
    · exact ⟨u, v, hu, hu2, hv, by rw [Nat.testBit_or, hv2]; rfl, e⟩
    · exact ⟨u, z, hu, hu2, hz, by rw [Nat.testBit_or, bit_two]; simp, by rw [addF_comm]; exact e⟩
theorem shift_sub {l : List Int} {a b z : Nat} (hz : z < 24) (h : b.testBit z = true) : Sub (shiftF l a z) (sumF l a b) := fun i hi => by
  obtain ⟨u, hu, hu2, e⟩ := testBit_shiftF.1 hi
  exact testBit_sumF.2 ⟨u, z, hu, hu2, hz, h, by rw [addF_comm]; exact e⟩

/-! ### covers -/
theorem cov_iff {l : List Int} (hg : isGrp l = true) {a x : Nat} (ha : isSetB l a = true) (hx : isSetB l x = true) : covF l a x = true ↔ sumF l a x = fullN l := by
  rw [covF_yes (by rw [ha, hx]; rfl), beq_iff_eq, fullF_n hg]; omega
theorem cov_set {l : List Int} {a x : Int} (h : covF l a x = true) : isSetB l x = true := by
  unfold covF at h; simp only [Bool.and_eq_true] at h; exact h.1.2
theorem few_min (l : List Int) (a : Int) : ∀ k (x : Nat), x < k → covF l a x = true → cnt (fewTo l a k) ≤ cnt x
  | 0, x, hx, _ => by omega
  | k + 1, x, hx, hc => by
    by_cases e : cnt k < cnt (fewTo l a k)
    · cases q : covF l a k
      · rw [fewTo_no' q]
        by_cases hk : x = k
        · subst hk; rw [q] at hc; cases hc
        · exact few_min l a k x (by omega) hc
      · rw [fewTo_yes e q]
        by_cases hk : x = k
        · subst hk; exact Nat.le_refl _
        · have := few_min l a k x (by omega) hc; omega
    · rw [fewTo_no e]
      by_cases hk : x = k
      · subst hk; omega
      · exact few_min l a k x (by omega) hc
theorem few_cov {l : List Int} {a : Int} (h : covF l a (fullN l) = true) : ∀ k, covF l a (fewTo l a k) = true
  | 0 => h
  | k + 1 => by
    rw [fewTo]
    split
    · next e => exact e.2
    · exact few_cov h k
theorem cov_full {l : List Int} (hg : isGrp l = true) {a : Nat} (ha : a ≠ 0) (ha2 : a < 2 ^ ord l) : sumF l a (fullN l) = fullN l := by
  have hb := ord_bd hg
  obtain ⟨y, hy⟩ := bit_of_pos ha
  have hy2 := bit_lt ha2 hy
  refine Nat.eq_of_testBit_eq fun i => bool_eq_of ⟨fun h => ?_, fun h => ?_⟩
  · rw [fullN_bit]; exact decide_eq_true (bit_lt (sumF_lt (isGrp_ords hg) a _) h)
  · rw [fullN_bit, decide_eq_true_iff] at h
    exact testBit_sumF.2 ⟨y, addF l i (negF l y), by omega, hy, addF_bd hg _ _, by rw [fullN_bit]; exact decide_eq_true (addF_lt l (isGrp_ords hg) _ _), add_sub (isGrp_ords hg) h⟩
theorem greedy_cov {l : List Int} (hg : isGrp l = true) {a : Nat} (ha : a ≠ 0) (ha2 : a < 2 ^ ord l) : ∀ n out left, left = andN (fullN l) (sumF l a out) → out < 2 ^ ord l → left ≤ n → sumF l a (greedyN l a n out left) = fullN l ∧ greedyN l a n out left < 2 ^ ord l
  | 0, out, left, h, ho, hl => by
    have h0 : left = 0 := by omega
    subst h0
    exact ⟨(left_zero (sumF_lt (isGrp_ords hg) a out)).1 h.symm, ho⟩
  | n + 1, out, left, h, ho, hl => by
    by_cases h0 : left = 0
    · subst h0
      rw [greedyN_end]
      exact ⟨(left_zero (sumF_lt (isGrp_ords hg) a out)).1 h.symm, ho⟩
    · rw [greedyN_step h0]
      have hb := bestAt_lt hg a left
      have ho2 := ord_bd hg
      have hl2 : left < 2 ^ ord l := by rw [h]; exact andN_lt (fullN_lt l)
      have hless := greedy_less hg ha ha2 h0 hl2
      refine greedy_cov hg ha ha2 n _ _ ?_ (Nat.or_lt_two_pow ho (Nat.pow_lt_pow_right (by omega) hb)) (by omega)
      rw [sum_or_one (by omega), left_next, ← h]

/-! ### packings -/
theorem dir_iff {l : List Int} {a x : Nat} (ha : isSetB l a = true) (hx : isSetB l x = true) : directF l a x = true ↔ cnt (sumF l a x) = cnt a * cnt x := by
  rw [directF_yes (by rw [ha, hx]; rfl), beq_iff_eq, ← Int.natCast_mul]; omega
theorem dir_set {l : List Int} {a x : Int} (h : directF l a x = true) : isSetB l x = true := by
  unfold directF at h; simp only [Bool.and_eq_true] at h; exact h.1.2
theorem most_max (l : List Int) (a : Int) : ∀ k (x : Nat), x < k → directF l a x = true → cnt x ≤ cnt (mostTo l a k)
  | 0, x, hx, _ => by omega
  | k + 1, x, hx, hc => by
    by_cases e : cnt (mostTo l a k) < cnt k
    · cases q : directF l a k
      · rw [mostTo_no' q]
        by_cases hk : x = k
        · subst hk; rw [q] at hc; cases hc
        · exact most_max l a k x (by omega) hc
      · rw [mostTo_yes e q]
        by_cases hk : x = k
        · subst hk; exact Nat.le_refl _
        · have := most_max l a k x (by omega) hc; omega
    · rw [mostTo_no e]
      by_cases hk : x = k
      · subst hk; omega
      · exact most_max l a k x (by omega) hc
theorem most_dir {l : List Int} {a : Int} (h : directF l a (0 : Nat) = true) : ∀ k, directF l a (mostTo l a k) = true
  | 0 => h
  | k + 1 => by
    rw [mostTo]
    split
    · next e => exact e.2
    · exact most_dir h k

/-! ### tiles -/
def Til (l : List Int) (a Y : Nat) : Prop := Y < 2 ^ ord l ∧ sumF l a Y = fullN l ∧ cnt a * cnt Y = ord l
/-- a shift by an element of a tile meets no other shifts -/
theorem til_apart {l : List Int} (hg : isGrp l = true) {a Y d : Nat} (h : Til l a Y) (ha2 : a < 2 ^ ord l) (hd : Y.testBit d = true) : shiftF l a d &&& sumF l a (andN Y (2 ^ d)) = 0 := by
  obtain ⟨hY, hs, hc⟩ := h
  have hob := ord_bd hg
  have hd2 := bit_lt hY hd
  refine Classical.byContradiction fun hne => ?_
  have hlt : shiftF l a d &&& sumF l a (andN Y (2 ^ d)) < 2 ^ 24 := Nat.lt_of_le_of_lt Nat.and_le_left (shiftF_bd hg a d)
  have hp := cnt_pos (Nat.pos_of_ne_zero hne) hlt
  have h1 := cnt_or_and (shiftF l a d) (sumF l a (andN Y (2 ^ d)))
  have h2 := cnt_sum_le l a (andN Y (2 ^ d))
  have h3 : andN Y (2 ^ d) ||| 2 ^ d = Y := put_back hd
  have h4 := sum_or_one (l := l) (a := a) (b := andN Y (2 ^ d)) (z := d) (by omega)
  rw [h3, hs] at h4
  have h5 : cnt Y = cnt (andN Y (2 ^ d)) + 1 := by
    have := cnt_or_new (b := andN Y (2 ^ d)) (x := d) (Nat.lt_of_lt_of_le (andN_lt hY) (pow_ord hg)) (by omega) (andN_self_bit Y d)
    rw [h3] at this; exact this
  rw [Nat.or_comm, ← h4, cnt_full hg, cnt_shift hg ha2] at h1
  rw [h5, Nat.mul_add, Nat.mul_one] at hc
  omega
theorem fold_find {P : Nat → Prop} [DecidablePred P] (F : Nat → Nat → List Nat) : ∀ (L : List Nat) (out : List Nat), (out ≠ [] ∨ ∃ x ∈ L, P x ∧ F x 1 ≠ []) → L.foldl (fun (out : List Nat) (x : Nat) => if out.length < 1 ∧ P x then out ++ F x (1 - out.length) else out) out ≠ []
  | [], out, h => by
    rcases h with h | ⟨x, hx, _⟩
    · exact h
    · cases hx
  | y :: L, out, h => by
    rw [List.foldl_cons]
    refine fold_find F L _ ?_
    by_cases ho : out = []
    · subst ho
      rcases h with h | ⟨x, hx, hp, hf⟩
      · exact absurd rfl h
      · rw [List.mem_cons] at hx
        rcases hx with rfl | hx
        · left; rw [if_pos ⟨by simp, hp⟩]; simpa using hf
        · right; exact ⟨x, hx, hp, hf⟩
    · left
      have : ¬ (out.length < 1 ∧ P y) := fun e => ho (List.eq_nil_of_length_eq_zero (by omega))
      rw [if_neg this]; exact ho
theorem fold_all {P : Nat → Prop} [DecidablePred P] {Q : Nat → Prop} (m : Nat) (F : Nat → Nat → List Nat) : ∀ (L : List Nat) (out : List Nat), (∀ z ∈ out, Q z) → (∀ x ∈ L, P x → ∀ k, ∀ z ∈ F x k, Q z) → ∀ z ∈ L.foldl (fun (out : List Nat) (x : Nat) => if out.length < m ∧ P x then out ++ F x (m - out.length) else out) out, Q z
  | [], out, h, _ => h
  | y :: L, out, h, hF => by
    rw [List.foldl_cons]
    refine fold_all m F L _ ?_ (fun x hx => hF x (by simp [hx]))
    split
    · next e =>
      intro z hz
      rw [List.mem_append] at hz
      rcases hz with hz | hz
      · exact h z hz
      · exact hF y (by simp) e.2 _ z hz
    · exact h
theorem low_first {l : List Int} (hg : isGrp l = true) {u : Nat} (hu : u < 2 ^ ord l) (hne : u ≠ fullN l) : lowZ u < ord l ∧ u.testBit (lowZ u) = false := by
  have hb := ord_bd hg
  have : ∃ j, j < ord l ∧ u.testBit j = false ∧ ∀ i, i < j → u.testBit i = true := by
    refine Classical.byContradiction fun hq => hne (not_full hu (e := ord l) ?_ (Nat.le_refl _))
    intro j
    induction j using Nat.strongRecOn with
    | ind j ih =>
      intro hj
      refine Classical.byContradiction fun hb => hq ⟨j, hj, by simpa using hb, fun i hi => ih i hi (by omega)⟩
  obtain ⟨j, hj, h1, h2⟩ := this
  rw [lowZ_is h2 h1 (by omega)]
  exact ⟨hj, h1⟩
theorem tl_find {l : List Int} (hg : isGrp l = true) {a Y : Nat} (ha : a ≠ 0) (ha2 : a < 2 ^ ord l) (hY : Til l a Y) : ∀ f u b, u < 2 ^ ord l → Sub b Y → u = sumF l a b → ord l < f + cnt u → tlS l a f u b 1 ≠ []
  | 0, u, b, hu, _, _, hf => by have := cnt_ord hg hu; omega
  | f + 1, u, b, hu, hb, hs, hf => by
    have hob := ord_bd hg
    have hO := isGrp_ords hg
    by_cases hfull : u = fullN l
    · rw [tlS_full hfull]; simp
    · obtain ⟨he, hbit⟩ := low_first hg hu hfull
      unfold tlS
      rw [if_neg hfull]
      have hin : (fullN l).testBit (lowZ u) = true := by rw [fullN_bit]; exact decide_eq_true he
      rw [← hY.2.1] at hin
      obtain ⟨x, d, hx, hx2, hd, hd2, e⟩ := testBit_sumF.1 hin
      have hdF : dF l u x = d := by
        unfold dF
        rw [← e, addF_comm l x d, addF_assoc l hO, addF_neg l hO, addF_zero' hO (bit_lt hY.1 hd2)]
      have hdb : b.testBit d = false := by
        refine Classical.byContradiction fun q => ?_
        have q' : b.testBit d = true := by simpa using q
        have : u.testBit (lowZ u) = true := by rw [hs]; exact testBit_sumF.2 ⟨x, d, hx, hx2, hd, q', by rw [← hs]; exact e⟩
        rw [hbit] at this; cases this
      have hap : shiftF l a d &&& u = 0 := by
        have h1 := til_apart hg hY ha2 hd2
        rw [and_z] at h1 ⊢
        intro i hi
        have h2 := h1 i hi
        refine Classical.byContradiction fun q => ?_
        have q' : u.testBit i = true := by simpa using q
        rw [hs] at q'
        have := sumF_mono (l := l) (a := a) (b := a) (Sub.refl a) (c := b) (d := andN Y (2 ^ d)) (fun j hj => by
          rw [andN_bit, hb j hj, bit_two]
          have : ¬ d = j := fun q => by subst q; rw [hdb] at hj; cases hj
          simp [this]) i q'
        rw [h2] at this; cases this
      refine fold_find (P := fun x => shiftF l a (dF l u x) &&& u = 0) (fun x k => tlS l a f (u ||| shiftF l a (dF l u x)) (b ||| 2 ^ dF l u x) k) _ _ (Or.inr ⟨x, mem_elems.2 ⟨hx, hx2⟩, by rw [hdF]; exact hap, ?_⟩)
      have hm := tl_more hg ha ha2 hu d hap
      show tlS l a f (u ||| shiftF l a (dF l u x)) (b ||| 2 ^ dF l u x) 1 ≠ []
      rw [hdF]
      refine tl_find hg ha ha2 hY f _ _ hm.1 ?_ ?_ (by omega)
      · intro i hi
        rw [Nat.testBit_or, Bool.or_eq_true, bit_two, decide_eq_true_iff] at hi
        rcases hi with q | q
        · exact hb i q
        · subst q; exact hd2
      · rw [sum_or_one hd, ← hs]
theorem tl_sound {l : List Int} (hg : isGrp l = true) {a : Nat} (ha : a ≠ 0) (ha2 : a < 2 ^ ord l) : ∀ f u b m, u < 2 ^ ord l → b < 2 ^ ord l → u = sumF l a b → cnt u = cnt a * cnt b → ∀ z ∈ tlS l a f u b m, Til l a z
  | 0, _, _, _, _, _, _, _, z, hz => by simp [tlS] at hz
  | f + 1, u, b, m, hu, hb, hs, hc, z, hz => by
    have hob := ord_bd hg
    by_cases hfull : u = fullN l
    · rw [tlS_full hfull, List.mem_singleton] at hz
      subst hz
      exact ⟨hb, by rw [← hs, hfull], by rw [← hc, hfull, cnt_full hg]⟩
    · unfold tlS at hz
      rw [if_neg hfull] at hz
      refine fold_all (P := fun x => shiftF l a (dF l u x) &&& u = 0) (Q := Til l a) m (fun x k => tlS l a f (u ||| shiftF l a (dF l u x)) (b ||| 2 ^ dF l u x) k) (elems a) [] (by simp) ?_ z hz
      intro x hx hap k z hz
      have hdl := dF_lt hg u x
      obtain ⟨d, hd⟩ : ∃ d, d = dF l u x := ⟨_, rfl⟩
      have hz' : z ∈ tlS l a f (u ||| shiftF l a (dF l u x)) (b ||| 2 ^ dF l u x) k := hz
      rw [← hd] at hz' hap hdl
      have hm := tl_more hg ha ha2 hu d hap
      have hdb : b.testBit d = false := by
        refine Classical.byContradiction fun q => ?_
        have q' : b.testBit d = true := by simpa using q
        have h1 := shift_sub (l := l) (a := a) (by omega : d < 24) q'
        have h2 : u ||| shiftF l a d = u := by
          refine Nat.eq_of_testBit_eq fun i => bool_eq_of ?_
          rw [Nat.testBit_or, Bool.or_eq_true]
          exact ⟨fun e => e.elim id fun e => by rw [hs]; exact h1 i e, Or.inl⟩
        rw [h2] at hm; omega
      refine tl_sound hg ha ha2 f _ _ k hm.1 (Nat.or_lt_two_pow hb (Nat.pow_lt_pow_right (by omega) hdl)) (by rw [sum_or_one (by omega), ← hs]) ?_ z hz'
      have h3 := cnt_or_and u (shiftF l a d)
      rw [Nat.and_comm] at h3
      rw [hap, cnt_zero, cnt_shift hg ha2] at h3
      have h4 := cnt_or_new (Nat.lt_of_lt_of_le hb (pow_ord hg)) (by omega : d < 24) hdb
      rw [h4, Nat.mul_add, Nat.mul_one]; omega
theorem sum_one {l : List Int} (hg : isGrp l = true) {a : Nat} (ha2 : a < 2 ^ ord l) : sumF l a 1 = a := by
  have hob := ord_bd hg
  refine Nat.eq_of_testBit_eq fun i => bool_eq_of ?_
  rw [testBit_sumF]
  constructor
  · rintro ⟨u, v, hu, hu2, hv, hv2, e⟩
    rw [one_bit, decide_eq_true_iff] at hv2
    subst hv2
    rw [← e, addF_zero' (isGrp_ords hg) (bit_lt ha2 hu2)]; exact hu2
  · intro hi
    have := bit_lt ha2 hi
    exact ⟨i, 0, by omega, hi, by omega, by decide, addF_zero' (isGrp_ords hg) this⟩
/-- the search finds a tile where there is one, and nothing else -/
theorem ft_iff {l : List Int} (hg : isGrp l = true) {a : Nat} (ha : a ≠ 0) (ha2 : a < 2 ^ ord l) : ftB l a = true ↔ ∃ Y, Til l a Y := by
  have hob := ord_bd hg
  have hO := isGrp_ords hg
  have h1 : isOneB l a = true := isOneB_yes (isSetB_of hg ha2) (Nat.pos_of_ne_zero ha)
  have c1 : cnt 1 = 1 := by decide
  constructor
  · intro h
    cases hL : tileL l a 1 with
    | nil => rw [(ft_nil hL).1] at h; cases h
    | cons x L => exact ⟨x, tl_sound hg ha ha2 (ord l + 1) a 1 1 ha2 (one_lt hg) (sum_one hg ha2).symm (by rw [c1, Nat.mul_one]) x (by show x ∈ tileL l a 1; rw [hL]; simp)⟩
  · rintro ⟨Y, hY, hs, hc⟩
    have hY0 : Y ≠ 0 := fun e => by rw [e, cnt_zero] at hc; omega
    obtain ⟨y, hy⟩ := bit_of_pos hY0
    have hyo := bit_lt hY hy
    have hT : Til l a (shiftF l Y (negF l y)) := by
      refine ⟨shiftF_lt hO _ _, ?_, by rw [cnt_shift hg hY]; exact hc⟩
      refine Nat.eq_of_testBit_eq fun i => bool_eq_of ⟨fun h => ?_, fun h => ?_⟩
      · rw [fullN_bit]; exact decide_eq_true (bit_lt (sumF_lt hO a _) h)
      · rw [fullN_bit, decide_eq_true_iff] at h
        have hin : (fullN l).testBit (addF l i y) = true := by rw [fullN_bit]; exact decide_eq_true (addF_lt l hO _ _)
        rw [← hs] at hin
        obtain ⟨x, d, hx, hx2, hd, hd2, e⟩ := testBit_sumF.1 hin
        refine testBit_sumF.2 ⟨x, addF l (negF l y) d, hx, hx2, addF_bd hg _ _, testBit_shiftF.2 ⟨d, hd, hd2, rfl⟩, ?_⟩
        rw [addF_comm l (negF l y) d, ← addF_assoc l hO, e, addF_assoc l hO, addF_neg l hO, addF_zero' hO h]
    have hne := tl_find hg ha ha2 hT (ord l + 1) a 1 ha2 (fun i hi => by
      rw [one_bit, decide_eq_true_iff] at hi
      subst hi
      exact testBit_shiftF.2 ⟨y, by omega, hy, by rw [addF_comm]; exact addF_neg l hO y⟩) (sum_one hg ha2).symm (by
      have := cnt_pos (Nat.pos_of_ne_zero ha) (Nat.lt_of_lt_of_le ha2 (pow_ord hg)); omega)
    cases hL : tileL l a 1 with
    | nil => exact absurd hL hne
    | cons x L => exact (ft_yes h1 hL).1

/-! ### all together -/
theorem tr_fact {l : List Int} {a : Int} (h : trB l a = true) : ∃ (n y u w : Nat), a = n ∧ isGrp l = true ∧ isSetB l n = true ∧ n ≠ 0 ∧
    fewF l a = y ∧ isSetB l y = true ∧ covF l a y = true ∧ meetF l a ≤ (cnt y : Int) ∧
    greedyF l a = u ∧ isSetB l u = true ∧ covF l a u = true ∧ isOneB l a = true ∧ cnt y ≤ cnt u ∧
    mostTF l a = w ∧ isSetB l w = true ∧ directF l a w = true ∧ cnt w ≤ cnt y ∧ (ftB l a = decide ((cnt w : Int) * (cnt n : Int) = (ord l : Int))) := by
  have hp := h
  unfold trB at hp
  rw [Bool.and_eq_true, decide_eq_true_iff] at hp
  obtain ⟨n, rfl, h0, hn, hn24, hg⟩ := isOneB_nat hp.1
  have hob := ord_bd hg
  have hnS := isSetB_of hg hn
  have hn1 := cnt_pos (Nat.pos_of_ne_zero h0) hn24
  have hpw : pw (ord l) = 2 ^ ord l := rfl
  have hyl := fewTo_lt l n (pw (ord l)) (Nat.le_refl _)
  have hyS := isSetB_of hg hyl
  have hfc : covF l n (fullN l) = true := (cov_iff hg hnS (isSetB_of hg (fullN_lt l))).2 (cov_full hg h0 hn)
  have hyc := few_cov hfc (pw (ord l))
  have hgr := greedy_cov hg h0 hn (fullN l) 0 (fullN l) (by rw [sumF_none, left_start]) (Nat.two_pow_pos _) (Nat.le_refl _)
  have huS := isSetB_of hg hgr.2
  have huc : covF l n (greedyN l n (fullN l) 0 (fullN l)) = true := (cov_iff hg hnS huS).2 hgr.1
  have hwl := mostTo_lt l n (pw (ord l)) (Nat.le_refl _)
  have hwS := isSetB_of hg hwl
  have hd0 : directF l n (0 : Nat) = true := (dir_iff hnS (isSetB_of hg (Nat.two_pow_pos _))).2 (by rw [sumF_none, cnt_zero]; simp)
  have hwd := most_dir hd0 (pw (ord l))
  obtain ⟨y, hy⟩ : ∃ y, y = fewTo l n (pw (ord l)) := ⟨_, rfl⟩
  obtain ⟨u, hu⟩ : ∃ u, u = greedyN l n (fullN l) 0 (fullN l) := ⟨_, rfl⟩
  obtain ⟨w, hw⟩ : ∃ w, w = mostTo l n (pw (ord l)) := ⟨_, rfl⟩
  have hmin := fun x hx hc => few_min l n (pw (ord l)) x hx hc
  have hmax := fun x hx hc => most_max l n (pw (ord l)) x hx hc
  rw [← hy] at hyS hyc hmin hyl
  rw [← hu] at huS huc hgr
  rw [← hw] at hwS hwd hmax hwl
  have hsy := (cov_iff hg hnS hyS).1 hyc
  have hsw := (dir_iff hnS hwS).1 hwd
  have hcy := cnt_sum_le l n y
  rw [hsy, cnt_full hg] at hcy
  have hcw := cnt_ord hg (sumF_lt (isGrp_ords hg) n w)
  rw [hsw] at hcw
  have hwy : cnt w ≤ cnt y := Nat.le_of_mul_le_mul_left (Nat.le_trans hcw hcy) hn1
  refine ⟨n, y, u, w, rfl, hg, hnS, h0, by rw [fewF_yes h, hy], hyS, hyc, ?_, by rw [greedyF_yes hp.1, hu], huS, huc, hp.1, hmin u hgr.2 huc, by rw [mostTF_yes h, hw], hwS, hwd, hwy, ?_⟩
  · rw [meetF_yes hnS (Nat.pos_of_ne_zero h0)]
    have hlt : ((ord l : Int) + cnt n - 1) / (cnt n : Int) < (cnt y : Int) + 1 := (Int.ediv_lt_iff_lt_mul (by omega)).2 (by
      have e : ((cnt y : Int) + 1) * (cnt n : Int) = ((cnt n * cnt y : Nat) : Int) + cnt n := by
        rw [Int.add_mul, Int.one_mul, Int.natCast_mul, Int.mul_comm]
      rw [e]; omega)
    omega
  · have e : decide ((cnt w : Int) * (cnt n : Int) = (ord l : Int)) = decide (cnt n * cnt w = ord l) := by
      rw [← Int.natCast_mul, Nat.mul_comm]; congr 1; exact propext ⟨fun q => by omega, fun q => by omega⟩
    rw [e, Bool.eq_iff_iff, decide_eq_true_iff, ft_iff hg h0 hn]
    constructor
    · rintro ⟨Y, hY, hs, hc⟩
      have hYd : directF l n Y = true := (dir_iff hnS (isSetB_of hg hY)).2 (by rw [hs, cnt_full hg, hc])
      have h1 := hmax Y hY hYd
      have h2 := Nat.mul_le_mul_left (cnt n) h1
      omega
    · intro hc
      exact ⟨w, hwl, eq_of_cnt (Nat.lt_of_lt_of_le (fullN_lt l) (pow_ord hg)) (fun i hi => by rw [fullN_bit]; exact decide_eq_true (bit_lt (sumF_lt (isGrp_ords hg) n w) hi)) (by rw [cnt_full hg, hsw]; omega), hc⟩

/-! ### sizes of intersections -/
def corF (l : List Int) (a b : Int) : List Int := if isSetB l a && isSetB l b then tabN l a.toNat (oppF l b.toNat) else []
theorem corF_no {l : List Int} {a b : Int} (h : (isSetB l a && isSetB l b) = false) : corF l a b = [] := by unfold corF; rw [h]; rfl
theorem corF_yes {l : List Int} {a b : Nat} (h : (isSetB l a && isSetB l b) = true) : corF l a b = tabN l a (oppF l b) := by unfold corF; rw [if_pos h]; rfl
theorem cnt_opp {l : List Int} (hg : isGrp l = true) {a : Nat} (ha : a < 2 ^ ord l) : cnt (oppF l a) = cnt a := by
  have hO := isGrp_ords hg
  unfold oppF
  rw [cnt_bset]
  · simp [cnt]
  · refine List.Pairwise.map _ ?_ (List.Pairwise.and_mem.1 (elems_nodup a))
    rintro y z ⟨hy, hz, hne⟩ e
    have h1 := neg_neg hO (bit_lt ha (mem_elems.1 hy).2)
    rw [e, neg_neg hO (bit_lt ha (mem_elems.1 hz).2)] at h1
    exact hne h1.symm
  · intro y hy
    obtain ⟨z, _, rfl⟩ := List.mem_map.1 hy
    exact negF_bd hg _
theorem count_row {l : List Int} (hg : isGrp l = true) {b u x : Nat} (hb : b < 2 ^ ord l) (hu : u < ord l) (hx : x < ord l) :
    ((elems (oppF l b)).map (fun y => addF l u y)).count x = ((shiftF l b x).testBit u).toNat := by
  have hob := ord_bd hg
  have hO := isGrp_ords hg
  have hnd : ((elems (oppF l b)).map (fun y => addF l u y)).Nodup := by
    refine List.Pairwise.map _ ?_ (List.Pairwise.and_mem.1 (elems_nodup _))
    rintro y z ⟨hy, hz, hne⟩ e
    exact hne (addF_cancel hO (bit_lt (oppF_lt hO b) (mem_elems.1 hy).2) (bit_lt (oppF_lt hO b) (mem_elems.1 hz).2) e)
  have h1 := List.nodup_iff_count.1 hnd x
  have hm : x ∈ (elems (oppF l b)).map (fun y => addF l u y) ↔ (shiftF l b x).testBit u = true := by
    rw [List.mem_map, testBit_shiftF]
    constructor
    · rintro ⟨y, hy, e⟩
      obtain ⟨z, hz, hz2, rfl⟩ := testBit_oppF.1 (mem_elems.1 hy).2
      refine ⟨z, hz, hz2, ?_⟩
      rw [← e, addF_assoc l hO, addF_comm l (negF l z) z, addF_neg l hO, addF_zero' hO hu]
    · rintro ⟨z, hz, hz2, e⟩
      refine ⟨negF l z, mem_elems.2 ⟨negF_bd hg z, testBit_oppF.2 ⟨z, hz, hz2, rfl⟩⟩, ?_⟩
      rw [← e, addF_assoc l hO, addF_neg l hO, addF_zero' hO hx]
  cases hs : (shiftF l b x).testBit u
  · have : x ∉ (elems (oppF l b)).map (fun y => addF l u y) := fun q => by rw [hm, hs] at q; cases q
    rw [List.count_eq_zero.2 this]; rfl
  · have := List.count_pos_iff.2 (hm.2 hs)
    show _ = 1
    omega
theorem sum_toNat' (q : Nat → Bool) : ∀ L : List Nat, (L.map (fun x => (q x).toNat)).sum = (L.filter q).length
  | [] => rfl
  | x :: L => by
    simp only [List.map_cons, List.sum_cons]
    rw [sum_toNat' q L]
    cases h : q x <;> simp [h]; omega
theorem inter_tab {l : List Int} (hg : isGrp l = true) {a b : Nat} (ha : a < 2 ^ ord l) (hb : b < 2 ^ ord l) : interTo l a b (ord l) = tabN l a (oppF l b) := by
  refine ext_nth (by rw [interTo_len, tabN_len]) fun x hx => ?_
  rw [interTo_len] at hx
  rw [nth_tabN hg]
  have e1 : nth (interTo l a b (ord l)) x = (cnt (a &&& shiftF l b x) : Int) := by
    unfold interTo
    rw [nth_castL]
    simp [nthN, List.getD, hx]
  rw [e1]
  congr 1
  unfold sumsL
  rw [List.count_flatMap]
  have e2 : (elems a).map (List.count x ∘ fun u => (elems (oppF l b)).map (fun y => addF l u y)) = (elems a).map (fun u => ((shiftF l b x).testBit u).toNat) := by
    refine List.map_congr_left fun u hu => ?_
    exact count_row hg hb (bit_lt ha (mem_elems.1 hu).2) hx
  rw [e2, sum_toNat']
  unfold cnt elems
  rw [List.filter_filter]
  congr 1
  refine List.filter_congr fun u _ => ?_
  rw [Nat.testBit_and, Bool.and_comm]
theorem inter_cor (l : List Int) (a b : Int) : interF l a b = corF l a b := by
  cases h : (isSetB l a && isSetB l b)
  · rw [corF_no h]; unfold interF; rw [h]; rfl
  · have hp := h
    rw [Bool.and_eq_true] at hp
    obtain ⟨a, rfl, ha, -, hg⟩ := isSetB_nat hp.1
    obtain ⟨b, rfl, hb, -⟩ := isSetB_nat hp.2
    rw [corF_yes h]; unfold interF; rw [if_pos h]
    exact inter_tab hg ha hb
def totTo (t : List Int) : Nat → Int
  | 0 => 0
  | k + 1 => totTo t k + nth t k
theorem totTo_succ (t : List Int) (k : Nat) : totTo t (k + 1) = totTo t k + nth t k := rfl
theorem tot_bd {t : List Int} {B : Int} (h : ∀ i, 0 ≤ nth t i ∧ nth t i ≤ B) : ∀ k, 0 ≤ totTo t k ∧ totTo t k ≤ B * (k : Int)
  | 0 => by simp [totTo]
  | k + 1 => by
    have ih := tot_bd h k
    have := h k
    have e : B * ((k + 1 : Nat) : Int) = B * (k : Int) + B := by rw [Int.natCast_add, Int.mul_add]; simp
    rw [totTo_succ, e]; omega
theorem filt_lt (k : Nat) : ∀ L : List Nat, (L.filter (fun x => decide (x < k + 1))).length = (L.filter (fun x => decide (x < k))).length + L.count k
  | [] => rfl
  | x :: L => by
    have ih := filt_lt k L
    rw [List.count_cons]
    by_cases h1 : x < k
    · rw [List.filter_cons_of_pos (by simp; omega), List.filter_cons_of_pos (by simpa using h1), List.length_cons, List.length_cons, ih]
      have : (x == k) = false := by simp; omega
      rw [this]; simp; omega
    · by_cases h2 : x = k
      · rw [List.filter_cons_of_pos (by simp; omega), List.filter_cons_of_neg (by simpa using h1), List.length_cons, ih]
        have : (x == k) = true := by simp [h2]
        rw [this]; simp; omega
      · rw [List.filter_cons_of_neg (by simp; omega), List.filter_cons_of_neg (by simpa using h1), ih]
        have : (x == k) = false := by simp [h2]
        rw [this]; simp
theorem tot_tab {l : List Int} (hg : isGrp l = true) (a b : Nat) : totTo (tabN l a b) (ord l) = ((cnt a * cnt b : Nat) : Int) := by
  have key : ∀ k, totTo (tabN l a b) k = (((sumsL l (elems a) (elems b)).filter (fun x => decide (x < k))).length : Int) := by
    intro k
    induction k with
    | zero => rw [List.filter_eq_nil_iff.2 (by simp)]; rfl
    | succ k ih => rw [totTo_succ, ih, nth_tabN hg, filt_lt]; omega
  rw [key, List.filter_eq_self.2 fun x hx => decide_eq_true (sumsL_lt hg x hx), sums_len]; rfl
theorem cor_tot {l : List Int} {a b : Nat} (h : (isSetB l a && isSetB l b) = true) : totTo (corF l a b) (corF l a b).length = (cnt a : Int) * (cnt b : Int) := by
  have hp := h
  rw [Bool.and_eq_true] at hp
  obtain ⟨b', e, hb, -, hg⟩ := isSetB_nat hp.2
  have e' : b' = b := by omega
  subst e'
  rw [corF_yes h, tabN_len, tot_tab hg, cnt_opp hg hb]; simp
end Go.Zz

/- Regions that draw their order, walked by hand: an operation is taken first, be its guard on or off. -/
namespace Go.Zz
open Go

theorem takeOn {P : Program} {ops : Array Oper} {Q : Exit → Act → World → Prop} {md : Region.Mode} {S : World → Prop} {i : Nat} {oi : Oper} {v : Value} {fuel : Nat} {listed : Array Bool} {a : Act} {w : World}
    (hr : (Region.ready md ops listed).contains i = true) (hi : ops[i]? = some oi) (hw : Region.wanted oi (yielded ops a.tmps) = true) (hf : Region.free md ops listed i = true) (hs : Region.noSelect ops = true)
    (hQ : ∀ c a w, Q (.panic c) (a.put oi.dst v) w → Q (.panic c) a w) (hy : ∀ w, S w → (execOp a.eval oi).run P w = .ok (.value v) w) (hS : S w)
    (h : wpAnyH P md ops Q S fuel (listed.setIfInBounds i true) (a.put oi.dst v) w) : wpAnyH P md ops Q S (fuel + 1) listed a w :=
  wpAnyH_take hi hs hf hr hQ (Or.inl ⟨hw, hy⟩) hS h
theorem takeOff {P : Program} {ops : Array Oper} {Q : Exit → Act → World → Prop} {md : Region.Mode} {S : World → Prop} {i : Nat} {oi : Oper} {fuel : Nat} {listed : Array Bool} {a : Act} {w : World}
    (hr : (Region.ready md ops listed).contains i = true) (hi : ops[i]? = some oi) (hw : Region.wanted oi (yielded ops a.tmps) = false) (hf : Region.free md ops listed i = true) (hs : Region.noSelect ops = true)
    (hQ : ∀ c a w, Q (.panic c) (a.put oi.dst undef) w → Q (.panic c) a w) (hS : S w)
    (h : wpAnyH P md ops Q S fuel (listed.setIfInBounds i true) (a.put oi.dst undef) w) : wpAnyH P md ops Q S (fuel + 1) listed a w :=
  wpAnyH_take hi hs hf hr hQ (Or.inr ⟨hw, rfl⟩) hS h
/-- one operation alone may come up -/
theorem takeOne {P : Program} {ops : Array Oper} {Q : Exit → Act → World → Prop} {md : Region.Mode} {S : World → Prop} {i : Nat} {oi : Oper} {fuel : Nat} {listed : Array Bool} {a : Act} {w : World}
    (hr : Region.ready md ops listed = [i]) (hi : ops[i]? = some oi) (hw : Region.wanted oi (yielded ops a.tmps) = true)
    (h : ∀ K' : Act → World → Prop, Shut (∀ a w, S w → (S w → wpAnyH P md ops Q S fuel (listed.setIfInBounds i true) a w) → K' a w) → Oper.wp P oi a w K' Q) : wpAnyH P md ops Q S (fuel + 1) listed a w :=
  wpAnyH_ready hr (by simp) (AllReadyH.cons hi (fun K hK => by rw [if_pos hw]; exact h K hK) AllReadyH.nil)
end Go.Zz
