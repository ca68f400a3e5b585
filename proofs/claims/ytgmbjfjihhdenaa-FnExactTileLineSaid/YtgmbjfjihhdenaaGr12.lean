/- Plain facts on tilings: the search fills the least element that is not reached yet. No program is named here. -/
import Derived.Test.YtgmbjfjihhdenaaGr6
import Derived.Test.YtgmbjfjihhdenaaGr10
import Derived.Test.YtgmbjfjihhdenaaGr8
import Derived.Deep.RegionHeld3
import Derived.Laws.OwnMore
import Derived.Laws.EntriesVeiled
namespace Go.Zz

/-- the least i that is no bit of r -/
def lowG (r : Nat) : Nat → Nat → Nat
  | 0, e => e
  | n + 1, e => if r.testBit e then lowG r n (e + 1) else e
def lowZ (r : Nat) : Nat := lowG r 25 0
theorem lowG_is {r e : Nat} (h2 : r.testBit e = false) : ∀ n i, i ≤ e → e < i + n → (∀ j, i ≤ j → j < e → r.testBit j = true) → lowG r n i = e := by
  intro n
  induction n with
  | zero => intro i h3 h4; omega
  | succ n ih =>
    intro i h3 h4 h1
    unfold lowG
    by_cases hi : i = e
    · subst hi; rw [h2]; rfl
    · rw [h1 i (Nat.le_refl _) (by omega)]
      exact ih (i + 1) (by omega) (by omega) fun j hj hj2 => h1 j (by omega) hj2
theorem lowZ_is {r e : Nat} (h1 : ∀ j, j < e → r.testBit j = true) (h2 : r.testBit e = false) (h3 : e ≤ 24) : lowZ r = e :=
  lowG_is h2 25 0 (by omega) (by omega) fun j _ hj => h1 j hj
theorem not_full {l : List Int} {u e : Nat} (hu : u < 2 ^ ord l) (h : ∀ j, j < e → u.testBit j = true) (he : ord l ≤ e) : u = fullN l := by
  apply Nat.eq_of_testBit_eq
  intro i
  rw [fullN_bit]
  by_cases hi : i < ord l
  · rw [h i (by omega)]; simp [hi]
  · rw [testBit_ge hu (by omega)]; simp [hi]
def dF (l : List Int) (u x : Nat) : Nat := addF l (lowZ u) (negF l x)
theorem dF_lt {l : List Int} (h : isGrp l = true) (u x : Nat) : dF l u x < ord l := addF_lt l (isGrp_ords h) _ _

def tlS (l : List Int) (a : Nat) : Nat → Nat → Nat → Nat → List Nat
  | 0, _, _, _ => []
  | f + 1, u, b, m => if u = fullN l then [b] else
      (elems a).foldl (fun (out : List Nat) (x : Nat) => if out.length < m ∧ shiftF l a (dF l u x) &&& u = 0 then out ++ tlS l a f (u ||| shiftF l a (dF l u x)) (b ||| 2 ^ dF l u x) (m - out.length) else out) []
def tlSto (l : List Int) (a f u b m k : Nat) : List Nat := ((elems a).take k).foldl (fun (out : List Nat) (x : Nat) => if out.length < m ∧ shiftF l a (dF l u x) &&& u = 0 then out ++ tlS l a f (u ||| shiftF l a (dF l u x)) (b ||| 2 ^ dF l u x) (m - out.length) else out) []
theorem tlS_full {l : List Int} {a f u b m : Nat} (h : u = fullN l) : tlS l a (f + 1) u b m = [b] := by unfold tlS; rw [if_pos h]
theorem tlS_end {l : List Int} {a f u b m : Nat} (h : u ≠ fullN l) : tlS l a (f + 1) u b m = tlSto l a f u b m (elems a).length := by
  unfold tlS tlSto; rw [if_neg h, List.take_length]
theorem tlSto_zero (l : List Int) (a f u b m : Nat) : tlSto l a f u b m 0 = [] := rfl
theorem elems_take {a k : Nat} (hk : k < (elems a).length) : (elems a).take (k + 1) = (elems a).take k ++ [(elems a)[k]] := List.take_succ_eq_append_getElem hk
theorem tlSto_yes {l : List Int} {a f u b m k : Nat} (hk : k < (elems a).length) (hm : (tlSto l a f u b m k).length < m) (h : shiftF l a (dF l u (elems a)[k]) &&& u = 0) :
    tlSto l a f u b m (k + 1) = tlSto l a f u b m k ++ tlS l a f (u ||| shiftF l a (dF l u (elems a)[k])) (b ||| 2 ^ dF l u (elems a)[k]) (m - (tlSto l a f u b m k).length) := by
  unfold tlSto at hm ⊢; rw [elems_take hk, List.foldl_append]; simp only [List.foldl_cons, List.foldl_nil]; rw [if_pos ⟨hm, h⟩]
theorem tlSto_no {l : List Int} {a f u b m k : Nat} (hk : k < (elems a).length) (h : ¬ shiftF l a (dF l u (elems a)[k]) &&& u = 0) : tlSto l a f u b m (k + 1) = tlSto l a f u b m k := by
  unfold tlSto; rw [elems_take hk, List.foldl_append]; simp only [List.foldl_cons, List.foldl_nil]; rw [if_neg fun e => h e.2]
theorem tlSto_stop {l : List Int} {a f u b m k : Nat} (hm : ¬ (tlSto l a f u b m k).length < m) : ∀ d, tlSto l a f u b m (k + d) = tlSto l a f u b m k := by
  intro d
  induction d with
  | zero => rfl
  | succ d ih =>
    rw [← Nat.add_assoc]
    by_cases hk : k + d < (elems a).length
    · rw [← ih] at hm ⊢
      have e : tlSto l a f u b m (k + d + 1) = tlSto l a f u b m (k + d) := by
        unfold tlSto at hm ⊢; rw [elems_take hk, List.foldl_append]; simp only [List.foldl_cons, List.foldl_nil]; rw [if_neg fun e => hm e.1]
      rw [e]
    · rw [← ih]; unfold tlSto; rw [List.take_of_length_le (by omega), List.take_of_length_le (by omega)]
theorem tlS_stop {l : List Int} {a f u b m k : Nat} (h : u ≠ fullN l) (hk : k ≤ (elems a).length) (hm : k = (elems a).length ∨ ¬ (tlSto l a f u b m k).length < m) : tlS l a (f + 1) u b m = tlSto l a f u b m k := by
  rw [tlS_end h]
  rcases hm with rfl | hm
  · rfl
  · have := tlSto_stop hm ((elems a).length - k)
    rw [show k + ((elems a).length - k) = (elems a).length by omega] at this; exact this

def tlI (l : List Int) (a m : Nat) : Nat → Nat → Nat → List Nat → List Nat
  | 0, _, _, out => out
  | f + 1, u, b, out => if u = fullN l then out ++ [b] else
      (elems a).foldl (fun (out : List Nat) (x : Nat) => if shiftF l a (dF l u x) &&& u = 0 ∧ out.length < m then tlI l a m f (u ||| shiftF l a (dF l u x)) (b ||| 2 ^ dF l u x) out else out) out
def tlIto (l : List Int) (a m f u b : Nat) (out : List Nat) (k : Nat) : List Nat := ((elems a).take k).foldl (fun (out : List Nat) (x : Nat) => if shiftF l a (dF l u x) &&& u = 0 ∧ out.length < m then tlI l a m f (u ||| shiftF l a (dF l u x)) (b ||| 2 ^ dF l u x) out else out) out
theorem tlI_full {l : List Int} {a m f u b : Nat} {out : List Nat} (h : u = fullN l) : tlI l a m (f + 1) u b out = out ++ [b] := by unfold tlI; rw [if_pos h]
theorem tlI_end {l : List Int} {a m f u b : Nat} {out : List Nat} (h : u ≠ fullN l) : tlI l a m (f + 1) u b out = tlIto l a m f u b out (elems a).length := by
  unfold tlI tlIto; rw [if_neg h, List.take_length]
theorem tlIto_zero (l : List Int) (a m f u b : Nat) (out : List Nat) : tlIto l a m f u b out 0 = out := rfl
theorem tlIto_yes {l : List Int} {a m f u b k : Nat} {out : List Nat} (hk : k < (elems a).length) (h : shiftF l a (dF l u (elems a)[k]) &&& u = 0) (hm : (tlIto l a m f u b out k).length < m) :
    tlIto l a m f u b out (k + 1) = tlI l a m f (u ||| shiftF l a (dF l u (elems a)[k])) (b ||| 2 ^ dF l u (elems a)[k]) (tlIto l a m f u b out k) := by
  unfold tlIto at hm ⊢; rw [elems_take hk, List.foldl_append]; simp only [List.foldl_cons, List.foldl_nil]; rw [if_pos ⟨h, hm⟩]
theorem tlIto_no {l : List Int} {a m f u b k : Nat} {out : List Nat} (hk : k < (elems a).length) (h : ¬ (shiftF l a (dF l u (elems a)[k]) &&& u = 0 ∧ (tlIto l a m f u b out k).length < m)) :
    tlIto l a m f u b out (k + 1) = tlIto l a m f u b out k := by
  unfold tlIto at h ⊢; rw [elems_take hk, List.foldl_append]; simp only [List.foldl_cons, List.foldl_nil]; rw [if_neg h]
theorem tlI_eq (l : List Int) (a m : Nat) : ∀ f u b out, out.length < m → tlI l a m f u b out = out ++ tlS l a f u b (m - out.length) := by
  intro f
  induction f with
  | zero => intro u b out _; simp [tlI, tlS]
  | succ f ih =>
    intro u b out hm
    by_cases h : u = fullN l
    · rw [tlI_full h, tlS_full h]
    · unfold tlI tlS
      rw [if_neg h, if_neg h]
      have key : ∀ (L : List Nat) (oS : List Nat), L.foldl (fun (out : List Nat) (x : Nat) => if shiftF l a (dF l u x) &&& u = 0 ∧ out.length < m then tlI l a m f (u ||| shiftF l a (dF l u x)) (b ||| 2 ^ dF l u x) out else out) (out ++ oS) =
          out ++ L.foldl (fun (o : List Nat) (x : Nat) => if o.length < m - out.length ∧ shiftF l a (dF l u x) &&& u = 0 then o ++ tlS l a f (u ||| shiftF l a (dF l u x)) (b ||| 2 ^ dF l u x) (m - out.length - o.length) else o) oS := by
        intro L
        induction L with
        | nil => intro oS; rfl
        | cons x L ih2 =>
          intro oS
          simp only [List.foldl_cons]
          by_cases hs : shiftF l a (dF l u x) &&& u = 0
          · by_cases hl : oS.length < m - out.length
            · rw [if_pos ⟨hs, by rw [List.length_append]; omega⟩, if_pos ⟨hl, hs⟩, ih _ _ _ (by rw [List.length_append]; omega), List.append_assoc, List.length_append, show m - (out.length + oS.length) = m - out.length - oS.length by omega]
              exact ih2 _
            · rw [if_neg (by rw [List.length_append]; intro e; omega), if_neg fun e => hl e.1]
              exact ih2 _
          · rw [if_neg fun e => hs e.1, if_neg fun e => hs e.2]
            exact ih2 _
      have := key (elems a) []
      simpa using this
/-- a step reaches more -/
theorem tl_more {l : List Int} (hg : isGrp l = true) {a u : Nat} (ha : a ≠ 0) (ha2 : a < 2 ^ ord l) (hu : u < 2 ^ ord l) (d : Nat) (h : shiftF l a d &&& u = 0) :
    u ||| shiftF l a d < 2 ^ ord l ∧ cnt u < cnt (u ||| shiftF l a d) := by
  have hs := shiftF_lt (isGrp_ords hg) a d
  have h1 := Nat.or_lt_two_pow hu hs
  have hp := pow_ord hg
  refine ⟨h1, (sub_lt (Nat.lt_of_lt_of_le h1 hp) (fun i hi => by rw [Nat.testBit_or, hi]; rfl) fun e => ?_).2⟩
  have hc : cnt (shiftF l a d) ≠ 0 := by
    rw [cnt_shift hg ha2]
    have := cnt_pos (Nat.pos_of_ne_zero ha) (Nat.lt_of_lt_of_le ha2 hp); omega
  obtain ⟨i, hi⟩ := bit_of_pos (cnt_ne hc)
  have h3 : u.testBit i = true := by rw [e, Nat.testBit_or, hi]; simp
  have h4 : (shiftF l a d &&& u).testBit i = true := by rw [Nat.testBit_and, hi, h3]; rfl
  rw [h, Nat.zero_testBit] at h4; cases h4
def tileL (l : List Int) (a m : Nat) : List Nat := tlS l a (ord l + 1) a 1 m
theorem tlS_len (l : List Int) (a : Nat) : ∀ f u b m, 1 ≤ m → (tlS l a f u b m).length ≤ m := by
  intro f
  induction f with
  | zero => intro u b m _; simp [tlS]
  | succ f ih =>
    intro u b m hm
    unfold tlS
    split
    · simpa using hm
    · have key : ∀ (L : List Nat) (oS : List Nat), oS.length ≤ m → (L.foldl (fun (o : List Nat) (x : Nat) => if o.length < m ∧ shiftF l a (dF l u x) &&& u = 0 then o ++ tlS l a f (u ||| shiftF l a (dF l u x)) (b ||| 2 ^ dF l u x) (m - o.length) else o) oS).length ≤ m := by
        intro L
        induction L with
        | nil => intro oS h; exact h
        | cons x L ih2 =>
          intro oS h
          simp only [List.foldl_cons]
          refine ih2 _ ?_
          split
          · next h3 => have := ih (u ||| shiftF l a (dF l u x)) (b ||| 2 ^ dF l u x) (m - oS.length) (by omega); rw [List.length_append]; omega
          · exact h
      exact key _ _ (by simp)
/-- the first tile -/
def ftB (l : List Int) (a : Int) : Bool := isOneB l a && !(tileL l a.toNat 1).isEmpty
def ftV (l : List Int) (a : Int) : Int := if ftB l a then (((tileL l a.toNat 1).headD 0 : Nat) : Int) else 0
theorem ft_no {l : List Int} {a : Int} (h : isOneB l a = false) : ftB l a = false ∧ ftV l a = 0 := by
  have e : ftB l a = false := by unfold ftB; rw [h]; rfl
  exact ⟨e, by unfold ftV; rw [e]; rfl⟩
theorem ft_nil {l : List Int} {n : Nat} (h : tileL l n 1 = []) : ftB l n = false ∧ ftV l n = 0 := by
  have e : ftB l n = false := by unfold ftB; rw [show ((n : Int)).toNat = n from rfl, h]; simp
  exact ⟨e, by unfold ftV; rw [e]; rfl⟩
theorem ft_yes {l : List Int} {n : Nat} (h1 : isOneB l n = true) {x : Nat} {L : List Nat} (h : tileL l n 1 = x :: L) : ftB l n = true ∧ ftV l n = (x : Int) := by
  have e : ftB l n = true := by unfold ftB; rw [h1, show ((n : Int)).toNat = n from rfl, h]; rfl
  exact ⟨e, by unfold ftV; rw [e, show ((n : Int)).toNat = n from rfl, h]; rfl⟩
end Go.Zz

/- Tilings: differences; the search of the reference. -/
namespace Go.Zz
open Go.RowKit Go.Proofs
set_option maxHeartbeats 1000000
set_option maxRecDepth 4000

--%call minus 216 ext minus_any _ _ _ _ _ ({0}) ({1}) ({2}) ({3})
theorem minus_any (v : Value) (l : List Int) (x y : Nat) (w : World) (h : Ints w v l) (Hgr : Hid (isGrp l = true)) (hx : x < 16777216) (hy : y < 24) :
    Calls Try.prog 216 #[.agg #[v], .int .i64 x, .int .i64 y] w fun e w' => e = .returned (.int .i64 (addF l x (negF l y) : Nat)) ∧ Ext w w' := by
  obtain ⟨wb, hwb⟩ : ∃ wb, wb = w.alloc (.cells #[v] 31) := ⟨_, rfl⟩
  have hE0 := (Ext.refl w).alloc (.cells #[v] 31)
  have hb := box_cell w v 31
  rw [← hwb] at hE0 hb
  have hg : ∀ W, Ext wb W → Ints W v l := fun W hW => h.ext (hE0.trans hW)
  have hE := Ext.refl wb
  have Hsz : Hid (w.heap.size + 1 = wb.heap.size) := Lib.hid (by rw [hwb]; simp [go_sem])
  have Hwb := Lib.hid hwb
  clear hwb h
  have hbx := fun U => hb _ (lat_ext wb U)
  have hng : negF l y < 16777216 := by have := negF_lt l (isGrp_ords Hgr.out) y; have := (ord_bd Hgr.out).2; omega
  go_enter Try.func216, Try.ntmps216
  go_wp2_with fail
  rw [← Hwb.out]
  (refine wp_region_lat (wb) (by kernel_rfl) (by kernel_rfl) hE ?_); (repeat (go_big_quiet_step (first | (go_at_call 217; exact Calls.lat (negate_any _ _ _ _ (hg _ (lat_ext wb _)) (Hgr) ((by omega)))) | (go_at_call 210; exact Calls.lat (add_any _ _ _ _ _ (hg _ (lat_ext wb _)) (Hgr) (hx) (hng)))))); (refine wpQuiet_nil ?_); (intro W hE'); (replace hE := lat_of hE'); (clear hE')
  go_wp2_with fail
  go_ret
  exact ⟨rfl, hE0.trans hE⟩
theorem sSearch_any (v : Value) (l : List Int) (a : Nat) (Hgr : Hid (isGrp l = true)) (ha0 : a ≠ 0) (ha : a < 2 ^ ord l) : ∀ (f u b m : Nat) (w : World), Ints w v l → ord l < cnt u + f → u < 2 ^ ord l → b < 2 ^ 24 → 1 ≤ m → m ≤ 1000 →
    Calls Try.prog 203 #[.agg #[v], .int .i64 a, .int .i64 (fullN l : Nat), .int .i64 u, .int .i64 b, .int .i64 m] w fun e w' => ∃ v', e = .returned v' ∧ Own 3 w w' v' (castL (tlS l a f u b m)) ∧ Ext w w' := by
  intro f
  induction f with
  | zero => intro u b m w h hf hu; have := cnt_ord Hgr.out hu; omega
  | succ f ih =>
    intro u b m w h hf hu hb24 hm1 hm2
    have hob := ord_bd Hgr.out
    have hp24 := pow_ord Hgr.out
    have ha24 : a < 2 ^ 24 := Nat.lt_of_lt_of_le ha hp24
    have hu24 : u < 2 ^ 24 := Nat.lt_of_lt_of_le hu hp24
    obtain ⟨wb, hwb⟩ : ∃ wb, wb = w.alloc (.cells #[v] 31) := ⟨_, rfl⟩
    have hE0 := (Ext.refl w).alloc (.cells #[v] 31)
    have hb := box_cell w v 31
    rw [← hwb] at hE0 hb
    have hg : ∀ W, Ext wb W → Ints W v l := fun W hW => h.ext (hE0.trans hW)
    have hE := Ext.refl wb
    have Hsz : Hid (w.heap.size + 1 = wb.heap.size) := Lib.hid (by rw [hwb]; simp [go_sem])
    have Hwb := Lib.hid hwb
    clear hwb h
    have Hih := Lib.hid ih
    clear ih
    by_cases hfull : u = fullN l
    · have He := Lib.hid (tlS_full (l := l) (a := a) (f := f) (b := b) (m := m) hfull)
      have hq : ((u : Int) == (fullN l : Int)) = true := by rw [hfull]; simp
      clear hfull
      have hOl : Own 3 w (wb.alloc (.cells #[.int .i64 b] 3)) (.slice (some ⟨wb.heap.size, 0, none⟩) 1 1) (castL [b]) := own_made (TI := 3) (n := 1) (by omega) hE0 (castL [b]) rfl
      rw [← Hsz.out, Hwb.out] at hOl
      have hEl := hE0.alloc (.cells #[.int .i64 (b : Int)] 3)
      rw [Hwb.out] at hEl
      go_enter Try.func203, Try.ntmps203
      go_wp2_with fail
      go_ret
      exact ⟨_, rfl, by rw [He.out]; exact hOl, hEl⟩
    · have hq : ((u : Int) == (fullN l : Int)) = false := by rw [beq_eq_false_iff_ne]; omega
      have Hnf := Lib.hid hfull
      clear hfull
      obtain ⟨wc, hwc⟩ : ∃ wc, wc = wb.alloc (.cells #[] 3) := ⟨_, rfl⟩
      have hBk : Blk wc wb.heap.size 3 #[] := by rw [hwc]; exact Blk.new _ _ _
      have hEbc : Ext wb wc := by rw [hwc]; exact hE.alloc _
      have Hwc := Lib.hid hwc
      clear hwc
      go_enter Try.func203, Try.ntmps203
      go_wp2_with fail
      rw [← Hwb.out]
      go_loop [13] (fun xv => ∃ e : Nat, e ≤ ord l ∧ xv = .int .i64 e ∧ ∀ j, j < e → u.testBit j = true) (fun x => ord l - (intOf x).toNat)
      case atStart => exact ⟨0, by omega, rfl, by omega⟩
      case round =>
        obtain ⟨e, he, rfl, hall⟩ := hrel
        have hsh := ishr_nat (a := u) (n := e) (by omega)
        have hbt := bit_test' (a := u) (n := e) (by omega) (by omega)
        cases hbe : u.testBit e
        · rw [hbe] at hbt
          have helt : e < ord l := Classical.byContradiction fun hn => Hnf.out (not_full hu hall (by omega))
          have hlow : Hid (lowZ u = e) := Lib.hid (lowZ_is hall hbe (by omega))
          clear hall hbe
          go_wp2_with fail
          rw [← Hwc.out]
          clear hsh hbt
          refine (l3List_any a ha24 _).mono ?_
          rintro e1 w1 ⟨v1, rfl, hL, hE1⟩
          obtain ⟨aoL, cL, adrL, rfl, hadrL, hcellL⟩ := hL.ints.nats
          have hixL := ints_index (c := cL) elI szI hadrL
          have hE01 : Ext wb w1 := hEbc.trans hE1
          have hb1 : ∀ W, Ext w1 W → W.cell? ⟨w.heap.size, 0, none⟩ = some v := fun W hW => hb W (hE01.trans hW)
          have hg1 : ∀ W, Ext w1 W → Ints W v l := fun W hW => hg W (hE01.trans hW)
          have hOE : OwnE 3 wb w1 w1 (.slice (some ⟨wb.heap.size, 0, none⟩) 0 0) [] := OwnE.start w1 hBk hE1
          clear hadrL hb hg hL
          have hL24 : ∀ y ∈ elems a, y < 24 := fun y hy => elems_lt hy
          have hlen := elems_len a
          obtain ⟨L, hLdef⟩ : ∃ L, L = elems a := ⟨_, rfl⟩
          rw [← hLdef] at hcellL hixL hL24 hlen ⊢
          have HL := Lib.hid hLdef
          clear hLdef
          go_wp2_with fail
          go_loopw [14, 16] (fun ov i wr => ∃ k : Nat, k ≤ L.length ∧ i = .int .i64 k ∧ OwnE 3 wb w1 wr ov (castL (tlSto l a f u b m k)) ∧ Ext w1 wr) (fun _ i _ => L.length - (intOf i).toNat)
          case atStart => exact ⟨0, by omega, rfl, hOE, Ext.refl _⟩
          case round =>
            clear hOE hE
            obtain ⟨k, hk, rfl, hO, hEr⟩ := hrel
            obtain ⟨ab, cb, rfl, -⟩ := (hO.own hE01).shape
            obtain ⟨O, hOd⟩ : ∃ O, O = tlSto l a f u b m k := ⟨_, rfl⟩
            rw [← hOd] at hO ⊢
            rw [castL_len O] at hO ⊢
            by_cases hlt : k < L.length ∧ O.length < m
            · obtain ⟨hlt, hlm⟩ := hlt
              have hka : k < (elems a).length := by rw [← HL.out]; exact hlt
              have hX24 := hL24 _ (nthN_mem hlt)
              have Hel : Hid ((elems a)[k] = nthN L k) := Lib.hid (by rw [HL.out]; simp [nthN, List.getD, hka])
              obtain ⟨X, hX⟩ : ∃ X, X = nthN L k := ⟨_, rfl⟩
              have hck := fun U => hcellL k _ hlt (hEr.trans (lat_ext wr U))
              rw [← hX] at hck hX24 Hel
              have hbx := fun U => hb1 _ (hEr.trans (lat_ext wr U))
              have hng : negF l X < 16777216 := by have := negF_lt l (isGrp_ords Hgr.out) X; omega
              have hD24 : addF l e (negF l X) < 24 := Nat.lt_of_lt_of_le (addF_lt l (isGrp_ords Hgr.out) _ _) hob.2
              have HD : Hid (dF l u X = addF l e (negF l X)) := Lib.hid (by unfold dF; rw [hlow.out])
              obtain ⟨D, hD⟩ : ∃ D, D = addF l e (negF l X) := ⟨_, rfl⟩
              have hcA := fun W (hW : Ext wr W) => l2Add_any v l e (negF l X) W (hg1 _ (hEr.trans hW)) Hgr (by omega) hng
              rw [← hD] at hcA hD24 HD
              have hS24 := shiftF_bd Hgr.out a D
              obtain ⟨S, hS⟩ : ∃ S, S = shiftF l a D := ⟨_, rfl⟩
              have hcS := fun W (hW : Ext wr W) => l3Shift_any v l a D W (hg1 _ (hEr.trans hW)) Hgr ha24 hD24
              rw [← hS] at hcS hS24
              have hand : iand (S : Int) (u : Int) = ((S &&& u : Nat) : Int) := iand_nat (by omega) (by omega)
              have hmO : (O.length : Int) < (m : Int) := by omega
              have hE := Ext.refl wr
              clear hX hD
              cases hz : (((S &&& u : Nat) : Int) == 0)
              · have Hn : Hid (tlSto l a f u b m (k + 1) = O) := Lib.hid (by
                  rw [tlSto_no hka, hOd]
                  rw [Hel.out, HD.out, ← hS]
                  rw [beq_eq_false_iff_ne] at hz; omega)
                clear hOd hS
                go_wp2_with fail
                (refine wp_region_lat (wr) (by kernel_rfl) (by kernel_rfl) hE ?_); (repeat (go_big_quiet_step (first | (go_at_call 219; exact Calls.lat (l2Negate_any _ _ _ _ ((hg1 _ (hEr.trans (lat_ext wr _)))) (Hgr) ((by omega)))) | (go_at_call 162; exact Calls.lat (hcA _ (lat_ext wr _)))))); (refine wpQuiet_nil ?_); (intro W hE'); (replace hE := lat_of hE'); (clear hE')
                have hE11 := hEr.trans hE
                go_wp2_with (go_at_call 156; refine (hcS _ hE).mono ?_; rintro e' w' ⟨rfl, hE'⟩; replace hE := hE.trans hE'; clear hE')
                go_roundw
                case rel => exact ⟨k + 1, by omega, by go_num, by rw [Hn.out]; exact hO.ext hE, hEr.trans hE⟩
                case measure => (simp [intOf]; omega)
              · have hz' : S &&& u = 0 := by rw [beq_iff_eq] at hz; omega
                have hmore := tl_more Hgr.out ha0 ha hu D (by rw [← hS]; exact hz')
                rw [← hS] at hmore
                have Hn : Hid (tlSto l a f u b m (k + 1) = O ++ tlS l a f (u ||| S) (b ||| 2 ^ D) (m - O.length)) := Lib.hid (by
                  have := tlSto_yes (l := l) (a := a) (f := f) (u := u) (b := b) (m := m) hka (by rw [← hOd]; exact hlm) (by rw [Hel.out, HD.out, ← hS]; exact hz')
                  rw [this, ← hOd, Hel.out, HD.out, ← hS])
                have hbd : b ||| 2 ^ D < 2 ^ 24 := Nat.or_lt_two_pow hb24 (Nat.pow_lt_pow_right (by omega) hD24)
                have hcR := fun W (hI : Ints W v l) => Hih.out (u ||| S) (b ||| 2 ^ D) (m - O.length) W hI (by omega) hmore.1 hbd (by omega) (by omega)
                have hTl := tlS_len l a f (u ||| S) (b ||| 2 ^ D) (m - O.length) (by omega)
                obtain ⟨Y, hY⟩ : ∃ Y, Y = tlS l a f (u ||| S) (b ||| 2 ^ D) (m - O.length) := ⟨_, rfl⟩
                rw [← hY] at hcR hTl Hn
                have hs0 : ior (u : Int) (S : Int) = ((u ||| S : Nat) : Int) := ior_nat (by omega) (by omega)
                have hs1 := ishl_one (n := D) (by omega)
                have hs2 := ior_pw hb24 hD24
                have hsm : ((m - O.length : Nat) : Int) = (m : Int) - (O.length : Int) := by omega
                rw [hsm] at hcR
                have hwr : IntKind.i64.wrap ((m : Int) - (O.length : Int)) = (m : Int) - (O.length : Int) := by apply IntWalk.i64_in; omega
                have hln : (castL O).length + (castL Y).length ≤ 17592186044416 := by rw [castL_len, castL_len]; omega
                have Hcat : Hid (castL (O ++ Y) = castL O ++ castL Y) := Lib.hid (by simp [castL])
                clear hOd hS hY hmore hbd hTl hsm hz'
                go_wp2_with fail
                (refine wp_region_lat (wr) (by kernel_rfl) (by kernel_rfl) hE ?_); (repeat (go_big_quiet_step (first | (go_at_call 219; exact Calls.lat (l2Negate_any _ _ _ _ ((hg1 _ (hEr.trans (lat_ext wr _)))) (Hgr) ((by omega)))) | (go_at_call 162; exact Calls.lat (hcA _ (lat_ext wr _)))))); (refine wpQuiet_nil ?_); (intro W hE'); (replace hE := lat_of hE'); (clear hE')
                have hE11 := hEr.trans hE
                go_wp2_with (go_at_call 156; refine (hcS _ hE).mono ?_; rintro e' w2 ⟨rfl, hE'⟩; replace hE := hE.trans hE'; clear hE')
                have hE12 := hEr.trans hE
                have hD0 := (Ext.refl w2).drew
                first | (go_region_held3 (fun W => Ext w1 W ∧ W.cell? ⟨w.heap.size, 0, none⟩ = some v) (exact ⟨(by repeat (first | assumption | exact Ext.refl _ | (apply And.left; assumption) | apply Ext.drew | apply Ext.alloc)), hb1 _ (by repeat (first | assumption | exact Ext.refl _ | (apply And.left; assumption) | apply Ext.drew | apply Ext.alloc))⟩) (first | (go_at_call 203; ((with_reducible refine Calls.mono (hcR _ (hg1 _ (by repeat (first | assumption | exact Ext.refl _ | (apply And.left; assumption) | apply Ext.drew | apply Ext.alloc)))) ?_); rintro eH wH0 ⟨vH, rfl, hOn, hX0⟩; have hH0 := Ext.trans (a := w1) (by repeat (first | assumption | exact Ext.refl _ | (apply And.left; assumption) | apply Ext.drew | apply Ext.alloc)) hX0; have hR0 := Ext.trans (a := wr) (by repeat (first | assumption | exact Ext.refl _ | (apply And.left; assumption) | apply Ext.drew | apply Ext.alloc)) hX0)) | (refine step_appendsE slI rfl _ _ rfl wb w1 _ _ _ _ (hO.ext (by repeat (first | assumption | exact Ext.refl _ | (apply And.left; assumption) | apply Ext.drew | apply Ext.alloc))) hOn.ints hH0 hln rfl rfl ?_; intro vA wA hOA hXA hTA))) | (fail "the region")
                go_wp2_with fail
                go_roundw
                case rel => exact ⟨k + 1, by omega, by go_num, by rw [Hn.out, Hcat.out]; exact hOA, hXA⟩
                case measure => (simp [intOf]; omega)
            · have Hn : Hid (tlS l a (f + 1) u b m = O) := Lib.hid (by
                rw [hOd]
                exact tlS_stop Hnf.out (by rw [← HL.out]; exact hk) (by rw [← HL.out, ← hOd]; omega))
              have hE3 := hE0.trans (hE01.trans hEr)
              have hO' := (hO.own hE01).mono hE0
              clear hOd hO
              by_cases h1 : k < L.length
              all_goals
                have h2 : k < L.length → ¬ (O.length : Int) < (m : Int) := by omega
                try replace h2 := h2 h1
                clear hlt
                go_wp2_with fail
                go_ret
                exact ⟨_, rfl, by rw [Hn.out]; exact hO', hE3⟩
        · rw [hbe] at hbt
          have helt := bit_lt hu hbe
          go_wp2_with fail
          go_round
          case rel => exact ⟨e + 1, by omega, by go_num, fun j hj => by by_cases hje : j = e; (subst hje; exact hbe); exact hall j (by omega)⟩
          case measure => (simp [intOf]; omega)
end Go.Zz

/- What stays where a call writes into one box and grows the slice that lies in it. -/
namespace Go.Zz
open Go.RowKit Go.Proofs
set_option maxHeartbeats 1000000

theorem own_nb {TI : TypeId} {w0 w : World} {v : Value} {l : List Int} {b : Nat} (h : Own TI w0 w v l) (hb : b < w0.heap.size) : v.ownBlock ≠ some b := fun e => by have := (h.blk b e).1; omega
/-- w' is w with new blocks, and writes to block b and to the row o alone -/
structure Fr (b : Nat) (o : Option Nat) (w w' : World) : Prop where
  os : w'.os = w.os
  tape : w'.tape = w.tape
  output : w'.output = w.output
  size : w.heap.size ≤ w'.heap.size
  block : ∀ k, k < w.heap.size → k ≠ b → some k ≠ o → w'.heap[k]? = w.heap[k]?
/-- the row o' is the row o, or newer than w -/
def Nw (o : Option Nat) (w : World) (o' : Option Nat) : Prop := o' = o ∨ ∀ k, o' = some k → w.heap.size ≤ k
theorem Fr.refl (b : Nat) (o : Option Nat) (w : World) : Fr b o w w := ⟨rfl, rfl, rfl, Nat.le_refl _, fun _ _ _ _ => rfl⟩
theorem Nw.refl (o : Option Nat) (w : World) : Nw o w o := Or.inl rfl
theorem Fr.trans {b : Nat} {o o1 : Option Nat} {w w1 w2 : World} (h : Fr b o w w1) (hn : Nw o w o1) (k : Fr b o1 w1 w2) : Fr b o w w2 :=
  ⟨k.os.trans h.os, k.tape.trans h.tape, k.output.trans h.output, Nat.le_trans h.size k.size, fun i hi hb ho => by
    rw [k.block i (Nat.lt_of_lt_of_le hi h.size) hb fun e => ?_, h.block i hi hb ho]
    rcases hn with hn | hn
    · rw [hn] at e; exact ho e
    · have := hn i e.symm; omega⟩
theorem Nw.trans {o o1 o2 : Option Nat} {w w1 : World} (h : Nw o w o1) (hs : w.heap.size ≤ w1.heap.size) (k : Nw o1 w1 o2) : Nw o w o2 := by
  rcases k with k | k
  · rw [k]; exact h
  · exact Or.inr fun i hi => Nat.le_trans hs (k i hi)
theorem Ext.fr {w w' : World} (h : Ext w w') (b : Nat) (o : Option Nat) : Fr b o w w' := ⟨h.os, h.tape, h.output, h.size, fun k hk _ _ => h.block k hk⟩
theorem fr_grown {b : Nat} {o : Option Nat} {w w' : World} (h : w.grownBy w' o) : Fr b o w w' := ⟨h.os, h.tape, h.output, h.size, fun k hk _ ho => h.block k hk ho⟩
theorem fr_set (b : Nat) (o : Option Nat) (w : World) (i : Nat) (v : Value) : Fr b o w (w.setCell ⟨b, i, none⟩ v) :=
  ⟨rfl, rfl, rfl, by simp, fun k _ hb _ => Below.heap_setCell _ _ _ _ (fun e => hb e)⟩
theorem Fr.ext {b : Nat} {o : Option Nat} {w0 w w' : World} (h : Fr b o w w') (hE : Ext w0 w) (hb : w0.heap.size ≤ b) (ho : ∀ k, o = some k → w0.heap.size ≤ k) : Ext w0 w' := by
  have hs := hE.size
  refine ⟨h.os.trans hE.os, h.tape.trans hE.tape, h.output.trans hE.output, Nat.le_trans hs h.size, fun k hk => ?_⟩
  rw [h.block k (Nat.lt_of_lt_of_le hk hs) (by omega) fun e => by have := ho k e.symm; omega]
  exact hE.block k hk
theorem Fr.blk {b : Nat} {o : Option Nat} {w w' : World} (h : Fr b o w w') {c : Nat} {T : TypeId} {cs : Array Value} (hB : Blk w c T cs) (hc : c ≠ b) (ho : o ≠ some c) : Blk w' c T cs := by
  unfold Blk; rw [h.block c hB.lt hc fun e => ho e.symm]; exact hB
theorem Fr.own {b : Nat} {o : Option Nat} {w w' : World} (h : Fr b o w w') {TI : TypeId} {w0 : World} {v : Value} {l : List Int} (hO : Own TI w0 w v l) (h1 : v.ownBlock ≠ some b) (h2 : v.ownBlock = none ∨ v.ownBlock ≠ o) : Own TI w0 w' v l := by
  obtain ⟨⟨hl, hr⟩, hn⟩ := hO
  refine ⟨⟨hl, ?_⟩, hn⟩
  rcases hr with hr | ⟨g, cap, cur, rfl, hg, hh, rest⟩
  · exact Or.inl hr
  · refine Or.inr ⟨g, cap, cur, rfl, hg, ?_, rest⟩
    simp [Value.ownBlock] at h1 h2
    rw [h.block g (Array.getElem?_eq_some_iff.1 hh).1 h1 h2]; exact hh
theorem run_append1F {P : Program} {T TI : TypeId} (hT : IntSl P T TI) (ty : TypeId) (w0 w : World) (v : Value) (l : List Int) (y : Int) (ad : Addr) (hO : Own TI w0 w v l) (hE : Ext w0 w) (hy : ∀ j u, [Value.int .i64 y][j]? = some u → w.cell? (ad.add j) = some u) (hn : l.length < 17592186044416) :
    ∃ v' w', (Builtin.append_ #[T, T] ty #[v, .slice (some ad) 1 1]).run P w = .ok v' w' ∧ Own TI w0 w' v' (l ++ [y]) ∧ w.grownBy w' v.ownBlock ∧ Nw v.ownBlock w v'.ownBlock := by
  obtain ⟨i, hi, hz, hs1, hby⟩ := hT.info
  have h1 := hO.1
  rcases h1.2 with ⟨rfl, hl⟩ | ⟨g, cap, cur, rfl, hg, hh, hnc, hcm, hcs, htk⟩
  · have hl' : l = [] := List.eq_nil_of_length_eq_zero hl
    subst hl'
    obtain ⟨v', w', hrun, r1, r2, -⟩ := run_append_own (P := P) w w.heap.size T ty TI i (.int .i64 0) 1 8 hT.und hi hz hs1 hby rfl (by omega) (.slice none 0 0) 0 [] (World.ownsRow_nil _ _ _ _) ad 1 1 [.int .i64 y] rfl hy (by simp [Value.oneCell']) (by unfold maxLen; omega) (by omega) (Nat.le_refl _)
    have hO' : Own TI w w' v' [y] := ⟨by simpa using r1, by simp⟩
    exact ⟨v', w', hrun, by simpa using hO'.mono hE, r2, Or.inr fun k hk => (hO'.blk k hk).1⟩
  · by_cases hroom : l.length + 1 ≤ cap
    · obtain ⟨w', hrun, r1, r2⟩ := run_append_fits (P := P) w w0.heap.size T ty TI i 1 hT.und hi hs1 g l.length cap _ h1 ad 1 1 [.int .i64 y] rfl hy (by simp [Value.oneCell']) hroom
      exact ⟨_, w', hrun, ⟨by simpa using r1, by simp; omega⟩, r2, Or.inl rfl⟩
    · obtain ⟨v', w', hrun, r1, r2⟩ := run_append_arg_grows (P := P) (w := w) T ty TI i (.int .i64 0) 1 8 hT.und hi hz hs1 hby rfl (by omega) ⟨g, 0, none⟩ l.length cap (l.map (Value.int .i64)) (by simp) (by
        intro j u hu
        have hj : j < l.length := by have := (List.getElem?_eq_some_iff.1 hu).1; simpa using this
        rw [Addr.add_lit, Nat.zero_add, World.ownsRow.cellAt h1 j (by omega)]
        simpa using hu) ad 1 1 [.int .i64 y] rfl hy (by omega) (by unfold maxLen; omega) (by omega)
      have hO' : Own TI w w' v' (l ++ [y]) := ⟨by simpa using r1, by simp; omega⟩
      exact ⟨v', w', hrun, hO'.mono hE, ⟨r2.os, r2.tape, r2.output, r2.size, fun k hk _ => r2.block k hk (by simp)⟩, Or.inr fun k hk => (hO'.blk k hk).1⟩
section
variable {P : Program} {ops : Array Oper} {rest : List Oper} {o : Oper} {a : Act} {Q : Exit → Act → World → Prop} {T TI : TypeId}
/-- append(s, y), with the row that it writes -/
theorem wp_append1F (hT : IntSl P T TI) (hg : o.guard = none) (s x : Operand) (hop : o.op = Op.call { callee := Callee.builtin Builtin.append, args := #[s, x], argTypes := #[T, T] })
    (w0 W : World) (v : Value) (l : List Int) (y : Int) (hO : Own TI w0 W v l) (hE : Ext w0 W) (hn : l.length < 17592186044416) (hs : a.eval s = v) (hx : a.eval x = .slice (some ⟨W.heap.size, 0, none⟩) 1 1)
    (hK : ∀ v' w', Own TI w0 w' v' (l ++ [y]) → W.grownBy w' v.ownBlock → Nw v.ownBlock W v'.ownBlock → wpList P ops Q rest (a.put o.dst v') w') :
    wpList P ops Q (o :: rest) a (W.alloc (.cells #[.int .i64 y] TI)) := by
  obtain ⟨v', w', hrun, h1, h2, h3⟩ := run_append1F hT o.type w0 (W.alloc (.cells #[.int .i64 y] TI)) v l y ⟨W.heap.size, 0, none⟩ (hO.alloc _) (hE.alloc _) (cell_one_new _ _ _) hn
  refine wpList_plain hg fun K hK' => ?_
  unfold Oper.wp
  simp [execOp, hop, resolve, invoke, builtin, hs, hx, hrun, Result.andThen]
  have e : Ext W (W.alloc (.cells #[.int .i64 y] TI)) := (Ext.refl W).alloc _
  refine hK' _ _ (hK v' w' h1 ⟨h2.os.trans e.os, h2.tape.trans e.tape, h2.output.trans e.output, Nat.le_trans e.size h2.size, fun k hk hne => ?_⟩ ?_)
  · rw [h2.block k (Nat.lt_of_lt_of_le hk e.size) hne]; exact e.block k hk
  · rcases h3 with h3 | h3
    · exact Or.inl h3
    · exact Or.inr fun k hk => Nat.le_trans e.size (h3 k hk)
end
end Go.Zz

/- Tilings: the search of the program, a closure. -/
namespace Go.Zz
open Go.RowKit Go.Proofs
set_option maxHeartbeats 2000000
set_option maxRecDepth 4000

theorem tl_any (v : Value) (l : List Int) (a m : Nat) (Hgr : Hid (isGrp l = true)) (ha0 : a ≠ 0) (ha : a < 2 ^ ord l) (hm : m ≤ 1000) (W0 : World) (bG bO bA bM bT : Nat) (hbt : bO ≠ bT) (hbO : W0.heap.size ≤ bO) (fn : Value)
    (HG : ∀ W, Ext W0 W → W.cell? ⟨bG, 0, none⟩ = some v) (HA : ∀ W, Ext W0 W → W.cell? ⟨bA, 0, none⟩ = some (.int .i64 a)) (HM : ∀ W, Ext W0 W → W.cell? ⟨bM, 0, none⟩ = some (.int .i64 m)) (HI : Hid (∀ W, Ext W0 W → Ints W v l))
    (hfn : fn = .func (.func 215) #[] #[.pointer (some ⟨bG, 0, none⟩), .pointer (some ⟨bO, 0, none⟩), .pointer (some ⟨bA, 0, none⟩), .pointer (some ⟨bM, 0, none⟩), .pointer (some ⟨bT, 0, none⟩)]) :
    ∀ (f u b : Nat) (w : World) (vo : Value) (out : List Nat), ord l < cnt u + f → u < 2 ^ ord l → b < 2 ^ 24 → out.length < m → Ext W0 w → Blk w bO 22 #[vo] → Own 3 W0 w vo (castL out) → Blk w bT 124 #[fn] →
    Calls Try.prog 215 #[.int .i64 b, .int .i64 u, .pointer (some ⟨bG, 0, none⟩), .pointer (some ⟨bO, 0, none⟩), .pointer (some ⟨bA, 0, none⟩), .pointer (some ⟨bM, 0, none⟩), .pointer (some ⟨bT, 0, none⟩)] w fun e w' =>
      e = .returned (.tuple #[]) ∧ ∃ vo', Blk w' bO 22 #[vo'] ∧ Own 3 W0 w' vo' (castL (tlI l a m f u b out)) ∧ Fr bO vo.ownBlock w w' ∧ Nw vo.ownBlock w vo'.ownBlock := by
  intro f
  induction f with
  | zero => intro u b w vo out hf hu; have := cnt_ord Hgr.out hu; omega
  | succ f ih =>
    intro u b w vo out hf hu hb24 hom hE0 hBO hO hBT
    rw [hfn] at hBT
    have hob := ord_bd Hgr.out
    have hp24 := pow_ord Hgr.out
    have ha24 : a < 2 ^ 24 := Nat.lt_of_lt_of_le ha hp24
    have hu24 : u < 2 ^ 24 := Nat.lt_of_lt_of_le hu hp24
    have hTO := own_not hO hBT (by decide)
    have hOO := own_not hO hBO (by decide)
    obtain ⟨ao, co, rfl, -⟩ := hO.shape
    rw [castL_len] at hO hBO hTO hOO ⊢
    rw [hfn] at ih
    have Hih := Lib.hid ih
    clear ih
    by_cases hfull : u = fullN l
    · have He := Lib.hid (tlI_full (l := l) (a := a) (m := m) (f := f) (b := b) (out := out) hfull)
      have hq : ((u : Int) == (fullN l : Int)) = true := by rw [hfull]; simp
      have Hc : Hid (castL (out ++ [b]) = castL out ++ [(b : Int)]) := Lib.hid (by simp [castL])
      clear hfull
      have hlen : (castL out).length < 17592186044416 := by rw [castL_len]; omega
      have kO : ∀ W, Ext w W → W.cell? ⟨bO, 0, none⟩ = some (.slice ao out.length co) := fun W hW => (hBO.ext hW).cell (i := 0) rfl
      go_enter Try.func215, Try.ntmps215
      go_wp2_with (first
        | (go_at_call 149; refine (FullSet_grp _ _ _ (HI.out _ hE0) Hgr).mono ?_; rintro e w1 ⟨rfl, hE1⟩)
        | (at_builtin; refine wp_append1F slI rfl _ _ rfl W0 _ _ _ _ (hO.ext hE1) (hE0.trans hE1) hlen rfl rfl ?_; intro v2 w2 hO2 hG2 hN2; have hB2 := hBO.ext hE1; replace hB2 := hB2.grown hG2 (fun k hk e => hOO (by rw [hk, e])); have hc2 := hB2.cell (i := 0) (v := .slice ao out.length co) rfl; have hf2 := hB2.free 0; obtain ⟨a2, c2, rfl, -⟩ := hO2.shape; obtain ⟨n2, hn2⟩ : ∃ n, n = (castL out ++ [(b : Int)]).length := ⟨_, rfl⟩; rw [← hn2] at hO2 hN2 ⊢; replace hn2 := Lib.hid hn2))
      have hF2 := ((hE1.fr bO (Value.slice ao out.length co).ownBlock).trans (Nw.refl _ _) (fr_grown hG2)).trans (Nw.refl _ _) (fr_set bO _ w2 0 (.slice a2 n2 c2))
      have hB3 : Blk (w2.setCell ⟨bO, 0, none⟩ (.slice a2 n2 c2)) bO 22 #[.slice a2 n2 c2] := hB2.set 0 (.slice a2 n2 c2)
      have hO3 := (fr_set bO none w2 0 (.slice a2 n2 c2)).own hO2 (own_not hO2 hB2 (by decide)) (by cases hq : (Value.slice a2 n2 c2).ownBlock with
        | none => exact Or.inl rfl
        | some k => exact Or.inr (by simp))
      exact bodyPost_ret (v := .tuple #[]) (by simp [results, Try.results215, go_sem]) rfl ⟨rfl, _, hB3, by rw [He.out, Hc.out]; exact hO3, hF2, (Nw.refl _ _).trans hE1.size hN2⟩
    · have hq : ((u : Int) == (fullN l : Int)) = false := by rw [beq_eq_false_iff_ne]; omega
      have Hnf := Lib.hid hfull
      clear hfull
      go_enter Try.func215, Try.ntmps215
      go_wp2_with (go_at_call 149; refine (FullSet_grp _ _ _ (HI.out _ hE0) Hgr).mono ?_; rintro e w1 ⟨rfl, hE1⟩)
      have hE01 := hE0.trans hE1
      go_loop [9] (fun xv => ∃ e : Nat, e ≤ ord l ∧ xv = .int .i64 e ∧ ∀ j, j < e → u.testBit j = true) (fun x => ord l - (intOf x).toNat)
      case atStart => exact ⟨0, by omega, rfl, by omega⟩
      case round =>
        obtain ⟨e, he, rfl, hall⟩ := hrel
        cases hbe : u.testBit e
        · have helt : e < ord l := Classical.byContradiction fun hn => Hnf.out (not_full hu hall (by omega))
          have hlow : Hid (lowZ u = e) := Lib.hid (lowZ_is hall hbe (by omega))
          have hcN := in_val u e hu24 (by omega) w1 hbe
          clear hall hbe
          go_wp2_with (first | (go_at_call 129; refine hcN.mono ?_; rintro e' w' ⟨rfl, hw'⟩; subst hw') | (go_at_call 169; refine (members_any a ha24 _).mono ?_; rintro e2 w2 ⟨v2, rfl, hL, hE2⟩; obtain ⟨aoL, cL, adrL, rfl, hadrL, hcellL⟩ := hL.ints.nats))
          have hixL := ints_index (c := cL) elI szI hadrL
          have hE12 := hE1.trans hE2
          have hE02 := hE01.trans hE2
          have hB2 := hBO.ext hE12
          have hO2 := hO.ext hE12
          have hT2 := hBT.ext hE12
          have hnL1 := own_nb hL (Nat.lt_of_lt_of_le hBO.lt hE1.size)
          have hnL2 : (Value.slice aoL (elems a).length cL).ownBlock = none ∨ (Value.slice aoL (elems a).length cL).ownBlock ≠ (Value.slice ao out.length co).ownBlock := by
            cases hq : (Value.slice aoL (elems a).length cL).ownBlock with
            | none => exact Or.inl rfl
            | some j => exact Or.inr fun e => by have h1 := (hL.blk j hq).1; have h2 := (hO.blk j e.symm).2; have := hE1.size; omega
          have hL24 : ∀ y ∈ elems a, y < 24 := fun y hy => elems_lt hy
          have hlenL := elems_len a
          have hoB : ∀ j, (Value.slice ao out.length co).ownBlock = some j → W0.heap.size ≤ j := fun j hj => (hO.blk j hj).1
          clear hO hBO hBT hcellL
          obtain ⟨oB, hoBd⟩ : ∃ oB, oB = (Value.slice ao out.length co).ownBlock := ⟨_, rfl⟩
          have HL := Lib.hid hL
          have HnL2 := Lib.hid hnL2
          have HN12 := Lib.hid hE12
          have HadrL := Lib.hid hadrL
          clear hL hnL2 hadrL
          go_loopw [30] (fun i wr => ∃ (k : Nat) (vo' : Value), k ≤ (elems a).length ∧ i = .int .i64 k ∧ Blk wr bO 22 #[vo'] ∧ Own 3 W0 wr vo' (castL (tlIto l a m f u b out k)) ∧ Fr bO (Value.slice ao out.length co).ownBlock w2 wr ∧ Nw (Value.slice ao out.length co).ownBlock w2 vo'.ownBlock) (fun i _ => (elems a).length - (intOf i).toNat)
          case atStart => exact ⟨0, _, by omega, rfl, hB2, hO2, Fr.refl _ _ _, Nw.refl _ _⟩
          case round =>
            clear hB2 hO2
            obtain ⟨k, vo', hk, rfl, hBr, hOr, hFr, hNr⟩ := hrel
            have hE0r := hFr.ext hE02 hbO hoB
            have hTr := hFr.blk hT2 (Ne.symm hbt) hTO
            have HLr := Lib.hid (hFr.own HL.out hnL1 HnL2.out)
            have HFr := Lib.hid hFr
            have HNr := Lib.hid hNr
            clear hFr hNr
            obtain ⟨ab, cb, rfl, -⟩ := hOr.shape
            obtain ⟨O, hOd⟩ : ∃ O, O = tlIto l a m f u b out k := ⟨_, rfl⟩
            rw [← hOd] at hOr hBr HNr
            rw [castL_len] at hOr hBr HNr
            by_cases hlt : k < (elems a).length
            · have hX24 := hL24 _ (nthN_mem hlt)
              have Hel : Hid ((elems a)[k] = nthN (elems a) k) := Lib.hid (by simp [nthN, List.getD, hlt])
              have hck : wr.cell? (adrL k) = some (.int .i64 (nthN (elems a) k : Int)) := by
                obtain ⟨ao2, c2, hv, -, -, hc⟩ := HLr.out.ints
                rw [castL_len] at hc hv
                simp only [Value.slice.injEq] at hv
                obtain ⟨a2, ha2, hc2⟩ := hc k hlt
                obtain ⟨h1, h2⟩ := HadrL.out k hlt
                rw [nth_castL] at hc2
                rw [← hv.1, h1] at ha2
                simp only [Option.some.injEq] at ha2
                rw [h2, ha2]; exact hc2
              obtain ⟨X, hX⟩ : ∃ X, X = nthN (elems a) k := ⟨_, rfl⟩
              rw [← hX] at hck hX24 Hel
              have hng : negF l X < 16777216 := by have := negF_lt l (isGrp_ords Hgr.out) X; omega
              have hD24 : addF l e (negF l X) < 24 := Nat.lt_of_lt_of_le (addF_lt l (isGrp_ords Hgr.out) _ _) hob.2
              have HD : Hid (dF l u X = addF l e (negF l X)) := Lib.hid (by unfold dF; rw [hlow.out])
              obtain ⟨D, hD⟩ : ∃ D, D = addF l e (negF l X) := ⟨_, rfl⟩
              have hcA := fun W (hW : Ext wr W) => minus_any v l e X W (HI.out _ (hE0r.trans hW)) Hgr (by omega) hX24
              rw [← hD] at hcA hD24 HD
              have hS24 := shiftF_bd Hgr.out a D
              obtain ⟨S, hS⟩ : ∃ S, S = shiftF l a D := ⟨_, rfl⟩
              have hcS := fun W (hW : Ext wr W) => shift_any v l a D W (HI.out _ (hE0r.trans hW)) Hgr ha24 hD24
              rw [← hS] at hcS hS24
              have hand : iand (S : Int) (u : Int) = ((S &&& u : Nat) : Int) := iand_nat (by omega) (by omega)
              clear hX hD HLr
              cases hz : (((S &&& u : Nat) : Int) == 0)
              · have Hn : Hid (tlIto l a m f u b out (k + 1) = O) := Lib.hid (by
                  rw [tlIto_no hlt, hOd]
                  rw [Hel.out, HD.out, ← hS]
                  rw [beq_eq_false_iff_ne] at hz; omega)
                clear hOd hS
                go_wp2_with (first | (go_at_call 216; refine (hcA _ (Ext.refl _)).mono ?_; rintro e3 w3 ⟨rfl, hE3⟩; have hE03 := hE0r.trans hE3) | (go_at_call 153; refine (hcS _ hE3).mono ?_; rintro e4 w4 ⟨rfl, hE4⟩; have hE04 := hE03.trans hE4; have hE34 := hE3.trans hE4))
                go_roundw
                case rel => exact ⟨k + 1, _, by omega, by go_num, hBr.ext hE34, by rw [Hn.out]; exact hOr.ext hE34, HFr.out.trans HNr.out (hE34.fr _ _), HNr.out⟩
                case measure => (simp [intOf]; omega)
              · have hz' : S &&& u = 0 := by rw [beq_iff_eq] at hz; omega
                have kO : ∀ W, Ext wr W → W.cell? ⟨bO, 0, none⟩ = some (.slice ab O.length cb) := fun W hW => (hBr.ext hW).cell (i := 0) rfl
                by_cases hlm : (O.length : Int) < (m : Int)
                · have hmore := tl_more Hgr.out ha0 ha hu D (by rw [← hS]; exact hz')
                  rw [← hS] at hmore
                  have Hn : Hid (tlIto l a m f u b out (k + 1) = tlI l a m f (u ||| S) (b ||| 2 ^ D) O) := Lib.hid (by
                    have := tlIto_yes (l := l) (a := a) (m := m) (f := f) (u := u) (b := b) (out := out) hlt (by rw [Hel.out, HD.out, ← hS]; exact hz') (by rw [← hOd]; omega)
                    rw [this, ← hOd, Hel.out, HD.out, ← hS])
                  have hbd : b ||| 2 ^ D < 2 ^ 24 := Nat.or_lt_two_pow hb24 (Nat.pow_lt_pow_right (by omega) hD24)
                  have hcR := fun W (hE : Ext wr W) => Hih.out (u ||| S) (b ||| 2 ^ D) W (.slice ab O.length cb) O (by omega) hmore.1 hbd (by omega) (hE0r.trans hE) (hBr.ext hE) (hOr.ext hE) (hTr.ext hE)
                  have hs0 : ior (u : Int) (S : Int) = ((u ||| S : Nat) : Int) := ior_nat (by omega) (by omega)
                  have hs1 := ishl_one (n := D) (by omega)
                  have hs2 := ior_pw hb24 hD24
                  have kt : ∀ W, Ext wr W → W.cell? ⟨bT, 0, none⟩ = some (.func (.func 215) #[] #[.pointer (some ⟨bG, 0, none⟩), .pointer (some ⟨bO, 0, none⟩), .pointer (some ⟨bA, 0, none⟩), .pointer (some ⟨bM, 0, none⟩), .pointer (some ⟨bT, 0, none⟩)]) := fun W hW => (hTr.ext hW).cell (i := 0) rfl
                  clear hOd hS hmore hbd hz'
                  go_wp2_with (first | (go_at_call 216; refine (hcA _ (Ext.refl _)).mono ?_; rintro e3 w3 ⟨rfl, hE3⟩; have hE03 := hE0r.trans hE3) | (go_at_call 153; refine (hcS _ hE3).mono ?_; rintro e4 w4 ⟨rfl, hE4⟩; have hE04 := hE03.trans hE4; have hE34 := hE3.trans hE4))
                  have hD0 := (Ext.refl w4).drew
                  first | (go_region_held3 (fun W => W.cell? ⟨bT, 0, none⟩ = some (.func (.func 215) #[] #[.pointer (some ⟨bG, 0, none⟩), .pointer (some ⟨bO, 0, none⟩), .pointer (some ⟨bA, 0, none⟩), .pointer (some ⟨bM, 0, none⟩), .pointer (some ⟨bT, 0, none⟩)])) (first | exact hT5.cell (i := 0) rfl | exact kt _ (by repeat (first | assumption | exact Ext.refl _ | (apply And.left; assumption) | apply Ext.drew | apply Ext.alloc))) (first | (go_at_call 215; ((with_reducible refine Calls.mono (hcR _ (by repeat (first | assumption | exact Ext.refl _ | (apply And.left; assumption) | apply Ext.drew | apply Ext.alloc))) ?_); rintro eH w5 ⟨rfl, vo5, hB5, hO5, hF5, hN5⟩; have hT5 := hF5.blk (hTr.ext (by repeat (first | assumption | exact Ext.refl _ | (apply And.left; assumption) | apply Ext.drew | apply Ext.alloc))) (Ne.symm hbt) (own_not (hOr.ext (by repeat (first | assumption | exact Ext.refl _ | (apply And.left; assumption) | apply Ext.drew | apply Ext.alloc))) (hTr.ext (by repeat (first | assumption | exact Ext.refl _ | (apply And.left; assumption) | apply Ext.drew | apply Ext.alloc))) (by decide)))))) | (fail "the region")
                  go_wp2_with fail
                  go_roundw
                  case rel => exact ⟨k + 1, vo5, by omega, by go_num, hB5, by rw [Hn.out]; exact hO5, HFr.out.trans HNr.out ((hE34.drew.fr _ _).trans (Nw.refl _ _) hF5), HNr.out.trans (Nat.le_trans HFr.out.size hE34.drew.size) hN5⟩
                  case measure => (simp [intOf]; omega)
                · have Hn : Hid (tlIto l a m f u b out (k + 1) = O) := Lib.hid (by
                    rw [tlIto_no hlt, hOd]
                    rw [← hOd]; omega)
                  clear hOd hS hz'
                  go_wp2_with (first | (go_at_call 216; refine (hcA _ (Ext.refl _)).mono ?_; rintro e3 w3 ⟨rfl, hE3⟩; have hE03 := hE0r.trans hE3) | (go_at_call 153; refine (hcS _ hE3).mono ?_; rintro e4 w4 ⟨rfl, hE4⟩; have hE04 := hE03.trans hE4; have hE34 := hE3.trans hE4))
                  go_roundw
                  case rel => exact ⟨k + 1, _, by omega, by go_num, hBr.ext hE34, by rw [Hn.out]; exact hOr.ext hE34, HFr.out.trans HNr.out (hE34.fr _ _), HNr.out⟩
                  case measure => (simp [intOf]; omega)
            · have Hn : Hid (tlI l a m (f + 1) u b out = O) := Lib.hid (by rw [hOd, tlI_end Hnf.out, show k = (elems a).length by omega])
              clear hOd
              go_wp2_with fail
              go_end0
              exact ⟨rfl, _, hBr, by rw [Hn.out]; exact hOr, (HN12.out.fr _ _).trans (Nw.refl _ _) HFr.out, (Nw.refl _ _).trans HN12.out.size HNr.out⟩
        · have helt := bit_lt hu hbe
          have hcN := in_val u e hu24 (by omega) w1 hbe
          go_wp2_with (refine hcN.mono ?_; rintro e' w' ⟨rfl, hw'⟩; subst hw')
          go_round
          case rel => exact ⟨e + 1, by omega, by go_num, fun j hj => by by_cases hje : j = e; (subst hje; exact hbe); exact hall j (by omega)⟩
          case measure => (simp [intOf]; omega)
end Go.Zz

/- FindTile and ClaimOfTile of both. -/
namespace Go.Zz
open Go.RowKit Go.Proofs
set_option maxHeartbeats 2000000
set_option maxRecDepth 4000

theorem tiles_any (v : Value) (l : List Int) (a m : Nat) (w : World) (h : Ints w v l) (Hgr : Hid (isGrp l = true)) (ha0 : a ≠ 0) (ha : a < 2 ^ ord l) (hm1 : 1 ≤ m) (hm : m ≤ 1000) :
    Calls Try.prog 155 #[.agg #[v], .int .i64 a, .int .i64 m] w fun e w' => ∃ v', e = .returned v' ∧ Own 3 w w' v' (castL (tileL l a m)) ∧ Ext w w' := by
  have hp24 := pow_ord Hgr.out
  have ha24 : a < 2 ^ 24 := Nat.lt_of_lt_of_le ha hp24
  have He : Hid (tileL l a m = tlI l a m (ord l + 1) a 1 []) := Lib.hid (by
    have := tlI_eq l a m (ord l + 1) a 1 [] (by simp; omega)
    rw [this]; simp [tileL])
  have hca : 1 ≤ cnt a := cnt_pos (Nat.pos_of_ne_zero ha0) ha24
  have hmf : ∀ (fn : Fn) (first cap : Array Value) (w : World), (Instr.makeFunc fn first cap).run Try.prog w = .ok (.func fn first cap) w := fun _ _ _ _ => rfl
  have HH := Lib.hid h
  clear h
  go_enter Try.func155, Try.ntmps155
  go_wp2_with fail
  obtain ⟨w1, h1⟩ : ∃ x, x = w.alloc (.cells #[v] 31) := ⟨_, rfl⟩
  obtain ⟨w2, h2⟩ : ∃ x, x = w1.alloc (.cells #[.int .i64 (a : Int)] 3) := ⟨_, rfl⟩
  obtain ⟨w3, h3⟩ : ∃ x, x = w2.alloc (.cells #[.int .i64 (m : Int)] 3) := ⟨_, rfl⟩
  obtain ⟨w4, h4⟩ : ∃ x, x = w3.alloc (.cells #[] 3) := ⟨_, rfl⟩
  obtain ⟨w5, h5⟩ : ∃ x, x = w4.alloc (.cells #[.slice (some ⟨w.heap.size + 1 + 1 + 1, 0, none⟩) 0 0] 22) := ⟨_, rfl⟩
  obtain ⟨w6, h6⟩ : ∃ x, x = w5.alloc (.cells #[.func (.func 215) #[] #[.pointer (some ⟨w.heap.size, 0, none⟩), .pointer (some ⟨w.heap.size + 1 + 1 + 1 + 1, 0, none⟩), .pointer (some ⟨w.heap.size + 1, 0, none⟩), .pointer (some ⟨w.heap.size + 1 + 1, 0, none⟩), .pointer (some ⟨w.heap.size + 1 + 1 + 1 + 1 + 1, 0, none⟩)]] 124) := ⟨_, rfl⟩
  rw [← h1, ← h2, ← h3, ← h4, ← h5, ← h6]
  have s1 : w1.heap.size = w.heap.size + 1 := by rw [h1]; simp
  have s2 : w2.heap.size = w.heap.size + 1 + 1 := by rw [h2]; simp [s1]
  have s3 : w3.heap.size = w.heap.size + 1 + 1 + 1 := by rw [h3]; simp [s2]
  have s4 : w4.heap.size = w.heap.size + 1 + 1 + 1 + 1 := by rw [h4]; simp [s3]
  have s5 : w5.heap.size = w.heap.size + 1 + 1 + 1 + 1 + 1 := by rw [h5]; simp [s4]
  have e01 : Ext w w1 := by rw [h1]; exact (Ext.refl _).alloc _
  have e12 : Ext w1 w2 := by rw [h2]; exact (Ext.refl _).alloc _
  have e23 : Ext w2 w3 := by rw [h3]; exact (Ext.refl _).alloc _
  have e34 : Ext w3 w4 := by rw [h4]; exact (Ext.refl _).alloc _
  have e45 : Ext w4 w5 := by rw [h5]; exact (Ext.refl _).alloc _
  have e56 : Ext w5 w6 := by rw [h6]; exact (Ext.refl _).alloc _
  have B1 : Blk w1 w.heap.size 31 #[v] := by rw [h1]; exact Blk.new _ _ _
  have B2 : Blk w2 (w.heap.size + 1) 3 #[.int .i64 (a : Int)] := by rw [h2, ← s1]; exact Blk.new _ _ _
  have B3 : Blk w3 (w.heap.size + 1 + 1) 3 #[.int .i64 (m : Int)] := by rw [h3, ← s2]; exact Blk.new _ _ _
  have B5 : Blk w5 (w.heap.size + 1 + 1 + 1 + 1) 22 #[.slice (some ⟨w.heap.size + 1 + 1 + 1, 0, none⟩) 0 0] := by rw [h5, ← s4]; exact Blk.new _ _ _
  have B6 : Blk w6 (w.heap.size + 1 + 1 + 1 + 1 + 1) 124 #[.func (.func 215) #[] #[.pointer (some ⟨w.heap.size, 0, none⟩), .pointer (some ⟨w.heap.size + 1 + 1 + 1 + 1, 0, none⟩), .pointer (some ⟨w.heap.size + 1, 0, none⟩), .pointer (some ⟨w.heap.size + 1 + 1, 0, none⟩), .pointer (some ⟨w.heap.size + 1 + 1 + 1 + 1 + 1, 0, none⟩)]] := by rw [h6, ← s5]; exact Blk.new _ _ _
  have O4 : Own 3 w3 w4 (.slice (some ⟨w.heap.size + 1 + 1 + 1, 0, none⟩) 0 0) [] := by rw [h4, ← s3]; exact own_made (TI := 3) (n := 0) (by omega) (Ext.refl w3) [] rfl
  have e13 := e12.trans e23
  have e36 := e34.trans (e45.trans e56)
  have e03 := e01.trans e13
  refine (tl_any v l a m Hgr ha0 ha hm w3 w.heap.size (w.heap.size + 1 + 1 + 1 + 1) (w.heap.size + 1) (w.heap.size + 1 + 1) (w.heap.size + 1 + 1 + 1 + 1 + 1) (by omega) (by omega) _ (fun W hW => ((B1.ext e13).ext hW).cell (i := 0) rfl) (fun W hW => ((B2.ext e23).ext hW).cell (i := 0) rfl) (fun W hW => (B3.ext hW).cell (i := 0) rfl) (Lib.hid fun W hW => HH.out.ext (e03.trans hW)) rfl (ord l + 1) a 1 w6 _ [] (by omega) ha (by decide) (by simp; omega) e36 (B5.ext e56) (O4.ext (e45.trans e56)) B6).mono ?_
  rintro e w7 ⟨rfl, v7, hB7, hO7, hF7, -⟩
  rw [← He.out] at hO7
  obtain ⟨a7, c7, rfl, -⟩ := hO7.shape
  have hx7 := hB7.cell (i := 0) (v := .slice a7 (castL (tileL l a m)).length c7) rfl
  have hE7 : Ext w w7 := hF7.ext (e03.trans e36) (by omega) (fun j hj => by simp [Value.ownBlock] at hj; omega)
  go_wp2_with fail
  go_ret
  exact ⟨_, rfl, hO7.mono e03, hE7⟩
theorem FindTile_any (v : Value) (l : List Int) (a : Int) (w : World) (h : Ints w v l) :
    Calls Try.prog 53 #[.agg #[v], .int .i64 a] w fun e w' => e = .returned (.tuple #[.int .i64 (ftV l a), .bool (ftB l a)]) ∧ Ext w w' := by
  obtain ⟨wb, hwb⟩ : ∃ wb, wb = w.alloc (.cells #[v] 31) := ⟨_, rfl⟩
  have hE0 := (Ext.refl w).alloc (.cells #[v] 31)
  have hb := box_cell w v 31
  rw [← hwb] at hE0 hb
  have hg : ∀ W, Ext wb W → Ints W v l := fun W hW => h.ext (hE0.trans hW)
  have hE := Ext.refl wb
  have Hsz : Hid (w.heap.size + 1 = wb.heap.size) := Lib.hid (by rw [hwb]; simp [go_sem])
  have Hwb := Lib.hid hwb
  clear hwb h
  have hbx := hb wb hE
  cases hs : isSetB l a
  · have Hs := Lib.hid (ft_no (isOneB_no hs))
    go_enter Try.func53, Try.ntmps53
    go_wp2_with fail
    rw [← Hwb.out]
    go_wp2_with (first | (go_at_call 134; refine (IsSet_val _ _ _ _ (hg _ hE) (hs)).mono ?_; rintro e w' ⟨rfl, hE'⟩; replace hE := hE.trans hE'; clear hE'))
    exact bodyPost_ret (v := .tuple #[.int .i64 0, .bool false]) (by simp [results, Try.results53, go_sem]) rfl ⟨by rw [Hs.out.1, Hs.out.2], hE0.trans hE⟩
  · obtain ⟨n, rfl, hn, hn24, hgr⟩ := isSetB_nat hs
    by_cases h0 : n = 0
    · subst h0
      have Hs : Hid (ftB l ((0 : Nat) : Int) = false ∧ ftV l ((0 : Nat) : Int) = 0) := Lib.hid (ft_no (isOneB_zero l))
      go_enter Try.func53, Try.ntmps53
      go_wp2_with fail
      rw [← Hwb.out]
      go_wp2_with (first | (go_at_call 134; refine (IsSet_val _ _ _ _ (hg _ hE) (hs)).mono ?_; rintro e w' ⟨rfl, hE'⟩; replace hE := hE.trans hE'; clear hE'))
      exact bodyPost_ret (v := .tuple #[.int .i64 0, .bool false]) (by simp [results, Try.results53, go_sem]) rfl ⟨by rw [Hs.out.1, Hs.out.2], hE0.trans hE⟩
    · have h00 : ((n : Int) == 0) = false := by rw [beq_eq_false_iff_ne]; omega
      have Hgr := Lib.hid hgr
      have hone := isOneB_yes hs (by omega)
      have hcT := fun W (hW : Ext wb W) => tiles_any v l n 1 W (hg W hW) Hgr h0 hn (by omega) (by omega)
      have hlenT : (tileL l n 1).length ≤ 1 := tlS_len _ _ _ _ _ _ (by omega)
      have Ho := Lib.hid hone
      clear hone hgr h0
      rcases hT : tileL l n 1 with _ | ⟨x, L⟩
      · have Hs := Lib.hid (ft_nil hT)
        rw [hT] at hcT
        clear hT hlenT
        go_enter Try.func53, Try.ntmps53
        go_wp2_with fail
        rw [← Hwb.out]
        go_wp2_with (first | (go_at_call 134; refine (IsSet_val _ _ _ _ (hg _ hE) (hs)).mono ?_; rintro e w' ⟨rfl, hE'⟩; replace hE := hE.trans hE'; clear hE') | (go_at_call 155; refine (hcT _ hE).mono ?_; rintro e w' ⟨vT, rfl, hO, hE'⟩; replace hE := hE.trans hE'; clear hE'; obtain ⟨aT, cT, rfl, -⟩ := hO.shape; simp only [castL, List.map_nil, List.length_nil] at hO ⊢))
        exact bodyPost_ret (v := .tuple #[.int .i64 0, .bool false]) (by simp [results, Try.results53, go_sem]) rfl ⟨by rw [Hs.out.1, Hs.out.2], hE0.trans hE⟩
      · rw [hT] at hlenT
        have hL : L = [] := List.eq_nil_of_length_eq_zero (by simp at hlenT; simpa using hlenT)
        subst hL
        have Hs := Lib.hid (ft_yes Ho.out hT)
        rw [hT] at hcT
        clear hT hlenT
        go_enter Try.func53, Try.ntmps53
        go_wp2_with fail
        rw [← Hwb.out]
        go_wp2_with (first | (go_at_call 134; refine (IsSet_val _ _ _ _ (hg _ hE) (hs)).mono ?_; rintro e w' ⟨rfl, hE'⟩; replace hE := hE.trans hE'; clear hE') | (go_at_call 155; refine (hcT _ hE).mono ?_; rintro e w' ⟨vT, rfl, hO, hE'⟩; replace hE := hE.trans hE'; clear hE'; obtain ⟨ao, c, adr, rfl, hlen, hadr, hcell⟩ := hO.ints.op; have hix : ∀ W, (Instr.indexAt 22 (.slice ao 1 c) (.int .i64 0)).run Try.prog W = .ok (.pointer (some (adr 0))) W := fun W => ints_index (c := c) (n := (castL [x]).length) elI szI hadr 0 W (by simp [castL]); have hck : w'.cell? (adr 0) = some (.int .i64 (x : Int)) := hcell 0 w' (by simp [castL]) (Ext.refl _); clear hlen hadr hcell; rw [show (castL [x]).length = 1 from rfl] at hO ⊢))
        exact bodyPost_ret (v := .tuple #[.int .i64 x, .bool true]) (by simp [results, Try.results53, go_sem]) rfl ⟨by rw [Hs.out.1, Hs.out.2], hE0.trans hE⟩
end Go.Zz
