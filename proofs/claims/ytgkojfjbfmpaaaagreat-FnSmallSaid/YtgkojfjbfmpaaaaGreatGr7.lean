/- Progressions and their differences. -/
import Derived.Test.YtgkojfjbfmpaaaaGreatGr6
import Derived.Test.YtgkojfjbfmpaaaaGreatGr5
import Derived.Laws.OwnMore
namespace Go.Zz
open Go.RowKit Go.Proofs
set_option maxHeartbeats 1000000

/-- the terms of a progression -/
def prCur (l : List Int) (s d : Nat) : Nat → Nat
  | 0 => s
  | k + 1 => addF l (prCur l s d k) d
def prSet (l : List Int) (s d n : Nat) : Nat := bset ((List.range n).map (prCur l s d))
theorem prSet_succ (l : List Int) (s d k : Nat) : prSet l s d (k + 1) = prSet l s d k ||| 2 ^ prCur l s d k := by
  unfold prSet; rw [List.range_succ, List.map_append]; exact bset_snoc _ _
theorem prCur_bd {l : List Int} (h : isGrp l = true) {s : Nat} (hs : s < 24) (d : Nat) : ∀ k, prCur l s d k < 24
  | 0 => hs
  | _ + 1 => addF_bd h _ _
theorem prSet_bd {l : List Int} (h : isGrp l = true) {s : Nat} (hs : s < 24) (d n : Nat) : prSet l s d n < 2 ^ 24 := by
  refine bset_lt fun x hx => ?_
  obtain ⟨k, _, rfl⟩ := List.mem_map.1 hx
  exact prCur_bd h hs d k
theorem progression_any (v : Value) (l : List Int) (s d n : Nat) (w : World) (h : Ints w v l) (Hgr : Hid (isGrp l = true)) (hs : s < 24) (hd : d < 24) (hn : n ≤ 24) :
    Calls Tryz.prog 88 #[.agg #[v], .int .i64 s, .int .i64 d, .int .i64 n] w fun e w' => e = .returned (.int .i64 (prSet l s d n : Nat)) ∧ Ext w w' := by
  obtain ⟨wb, hwb⟩ : ∃ wb, wb = w.alloc (.cells #[v] 26) := ⟨_, rfl⟩
  have hE0 := (Ext.refl w).alloc (.cells #[v] 26)
  have hb := box_cell w v 26
  rw [← hwb] at hE0 hb
  have hg : ∀ W, Ext wb W → Ints W v l := fun W hW => h.ext (hE0.trans hW)
  have hE := Ext.refl wb
  have Hsz : Hid (w.heap.size + 1 = wb.heap.size) := Lib.hid (by rw [hwb]; simp [go_sem])
  have Hwb := Lib.hid hwb
  clear hwb h
  go_enter Tryz.func88, Tryz.ntmps88
  go_wp2_with fail
  rw [← Hwb.out]
  go_loopw [1, 9, 11] (fun sv ov xv wr => ∃ k : Nat, k ≤ n ∧ xv = .int .i64 k ∧ sv = .int .i64 (prCur l s d k : Nat) ∧ ov = .int .i64 (prSet l s d k : Nat) ∧ Ext wb wr) (fun _ _ x _ => n - (intOf x).toNat)
  case atStart => exact ⟨0, by omega, rfl, rfl, rfl, hE⟩
  case round =>
    clear hE
    obtain ⟨k, hk, rfl, rfl, rfl, hE⟩ := hrel
    have hbx := hb _ hE
    by_cases hlt : k < n
    · have hc := prCur_bd Hgr.out hs d k
      have hp := prSet_bd Hgr.out hs d k
      have hs1 := ishl_one (n := prCur l s d k) (by omega)
      have hs2 := ior_pw hp hc
      have Hn := Lib.hid (prSet_succ l s d k)
      go_wp2_with (first | (go_at_call 82; refine (add_any _ _ _ _ _ (hg _ hE) (Hgr) ((by omega)) ((by omega))).mono ?_; rintro e w' ⟨rfl, hE'⟩; replace hE := hE.trans hE'; clear hE'))
      go_roundw
      case rel => exact ⟨k + 1, by omega, by go_num, rfl, by rw [Hn.out], hE⟩
      case measure => (simp [intOf]; omega)
    · have hkl : k = n := by omega
      subst hkl
      go_wp2_with fail
      go_ret
      exact ⟨rfl, hE0.trans hE⟩
theorem l10Progression_any (v : Value) (l : List Int) (s d n : Nat) (w : World) (h : Ints w v l) (Hgr : Hid (isGrp l = true)) (hs : s < 24) (hd : d < 24) (hn : n ≤ 24) :
    Calls Tryz.prog 103 #[.agg #[v], .int .i64 s, .int .i64 d, .int .i64 n] w fun e w' => e = .returned (.int .i64 (prSet l s d n : Nat)) ∧ Ext w w' := by
  obtain ⟨wb, hwb⟩ : ∃ wb, wb = w.alloc (.cells #[v] 26) := ⟨_, rfl⟩
  have hE0 := (Ext.refl w).alloc (.cells #[v] 26)
  have hb := box_cell w v 26
  rw [← hwb] at hE0 hb
  have hg : ∀ W, Ext wb W → Ints W v l := fun W hW => h.ext (hE0.trans hW)
  have hE := Ext.refl wb
  have Hsz : Hid (w.heap.size + 1 = wb.heap.size) := Lib.hid (by rw [hwb]; simp [go_sem])
  have Hwb := Lib.hid hwb
  clear hwb h
  go_enter Tryz.func103, Tryz.ntmps103
  go_wp2_with fail
  rw [← Hwb.out]
  go_loopw [10, 9, 11] (fun sv ov xv wr => ∃ k : Nat, k ≤ n ∧ xv = .int .i64 k ∧ sv = .int .i64 (prCur l s d k : Nat) ∧ ov = .int .i64 (prSet l s d k : Nat) ∧ Ext wb wr) (fun _ _ x _ => n - (intOf x).toNat)
  case atStart => exact ⟨0, by omega, rfl, rfl, rfl, hE⟩
  case round =>
    clear hE
    obtain ⟨k, hk, rfl, rfl, rfl, hE⟩ := hrel
    have hbx := hb _ hE
    by_cases hlt : k < n
    · have hc := prCur_bd Hgr.out hs d k
      have hp := prSet_bd Hgr.out hs d k
      have hs1 := ishl_one (n := prCur l s d k) (by omega)
      have hs2 := ior_pw hp hc
      have Hn := Lib.hid (prSet_succ l s d k)
      go_wp2_with (first | (go_at_call 93; refine (l2Add_any _ _ _ _ _ (hg _ hE) (Hgr) ((by omega)) ((by omega))).mono ?_; rintro e w' ⟨rfl, hE'⟩; replace hE := hE.trans hE'; clear hE'))
      go_roundw
      case rel => exact ⟨k + 1, by omega, by go_num, rfl, by rw [Hn.out], hE⟩
      case measure => (simp [intOf]; omega)
    · have hkl : k = n := by omega
      subst hkl
      go_wp2_with fail
      go_ret
      exact ⟨rfl, hE0.trans hE⟩
/-- whether a set is a progression by a step, from one of the elements of a list on -/
def diffL (l : List Int) (a d : Nat) (L : List Nat) : Bool := L.any (fun x => decide (prSet l x d (cnt a) = a))
def diffB (l : List Int) (a d : Nat) : Bool := diffL l a d (elems a)
def difTo (l : List Int) (a k : Nat) : List Nat := (List.range k).filter (diffB l a)
theorem difTo_yes {l : List Int} {a k : Nat} (h : diffB l a k = true) : difTo l a (k + 1) = difTo l a k ++ [k] := by
  unfold difTo; rw [List.range_succ, List.filter_append]; simp [h]
theorem difTo_no {l : List Int} {a k : Nat} (h : diffB l a k = false) : difTo l a (k + 1) = difTo l a k := by
  unfold difTo; rw [List.range_succ, List.filter_append]; simp [h]
theorem difTo_len (l : List Int) (a k : Nat) : (difTo l a k).length ≤ k := by
  unfold difTo; exact Nat.le_trans (List.length_filter_le _ _) (by simp)
def difF (l : List Int) (a : Int) : List Int := if isOneB l a then castL (difTo l a.toNat (ord l)) else []
theorem difF_no {l : List Int} {a : Int} (h : isOneB l a = false) : difF l a = [] := by unfold difF; rw [h]; rfl
theorem difF_yes {l : List Int} {n : Nat} (h : isOneB l n = true) : difF l n = castL (difTo l n (ord l)) := by unfold difF; rw [if_pos h]; rfl
theorem diffL_take {l : List Int} {a d : Nat} {L : List Nat} (h : ∀ j, j < L.length → prSet l (nthN L j) d (cnt a) ≠ a) : diffL l a d L = false := by
  unfold diffL
  rw [← Bool.not_eq_true, List.any_eq_true]
  rintro ⟨x, hx, hd⟩
  obtain ⟨j, hj, rfl⟩ := List.getElem_of_mem hx
  have := h j hj
  unfold nthN at this
  rw [List.getD_eq_getElem?_getD, List.getElem?_eq_getElem hj] at this
  exact this (of_decide_eq_true hd)
theorem diffL_at {l : List Int} {a d : Nat} {L : List Nat} {j : Nat} (hj : j < L.length) (h : prSet l (nthN L j) d (cnt a) = a) : diffL l a d L = true := by
  unfold diffL; rw [List.any_eq_true]; exact ⟨_, nthN_mem hj, decide_eq_true h⟩
end Go.Zz

/- Cosets, boxes, sets of Sidon. No program is named here. -/
namespace Go.Zz

theorem shiftF_shift {l : List Int} (h : isGrp l = true) (a x y : Nat) : shiftF l (shiftF l a x) y = shiftF l a (addF l y x) := by
  have ho := isGrp_ords h
  apply Nat.eq_of_testBit_eq
  intro z
  apply bool_eq_of
  rw [testBit_shiftF, testBit_shiftF]
  constructor
  · rintro ⟨u, _, hu, rfl⟩
    obtain ⟨t, ht, hb, rfl⟩ := testBit_shiftF.1 hu
    exact ⟨t, ht, hb, addF_assoc l ho y x t⟩
  · rintro ⟨t, ht, hb, rfl⟩
    exact ⟨addF l x t, addF_bd h x t, testBit_shiftF.2 ⟨t, ht, hb, rfl⟩, (addF_assoc l ho y x t).symm⟩
theorem shiftF_none {l : List Int} (h : isGrp l = true) {a : Nat} (ha : a < 2 ^ ord l) : shiftF l a 0 = a := by
  apply Nat.eq_of_testBit_eq
  intro i
  apply bool_eq_of
  rw [testBit_shiftF]
  constructor
  · rintro ⟨y, _, hy, e⟩
    rw [addF_zero l (isGrp_ords h) y (bit_lt ha hy)] at e
    subst e; exact hy
  · intro hi
    have := bit_lt ha hi
    exact ⟨i, Nat.lt_of_lt_of_le this (ord_bd h).2, hi, addF_zero l (isGrp_ords h) i this⟩
/-- a coset is a shift of a subgroup, by its lowest element -/
theorem coset_iff {l : List Int} (h : isGrp l = true) {n : Nat} (hn : n < 2 ^ ord l) : shiftF l (baseF l n) (lowN n) = n ↔ baseF l n = shiftF l n (negF l (lowN n)) := by
  have ho := isGrp_ords h
  have e1 : addF l (negF l (lowN n)) (lowN n) = 0 := by rw [addF_comm]; exact addF_neg l ho _
  constructor
  · intro e
    have : shiftF l (shiftF l (baseF l n) (lowN n)) (negF l (lowN n)) = shiftF l n (negF l (lowN n)) := by rw [e]
    rw [shiftF_shift h, e1, shiftF_none h (show baseF l n < 2 ^ ord l from genF_lt h _)] at this
    exact this
  · intro e
    rw [e, shiftF_shift h, addF_neg l ho, shiftF_none h hn]
def cstB (l : List Int) (a : Int) : Bool := isOneB l a && decide (hullF l a = a)
theorem cstB_no {l : List Int} {a : Int} (h : isOneB l a = false) : cstB l a = false := by unfold cstB; rw [h]; rfl
theorem cstB_hull {l : List Int} {n : Nat} (h : isOneB l n = true) : cstB l n = (hullF l n == (n : Int)) := by unfold cstB; rw [h]; rfl
theorem cstB_sub {l : List Int} {n : Nat} (h : isOneB l n = true) : cstB l n = subB l (shiftF l n (negF l (lowN n)) : Nat) := by
  obtain ⟨n', e, h0, h1, h2, hg⟩ := isOneB_nat h
  obtain rfl : n = n' := by omega
  have hs : isSetB l (shiftF l n (negF l (lowN n)) : Nat) = true := isSetB_of hg (shiftF_lt (isGrp_ords hg) _ _)
  rw [cstB_hull h, hullF_yes h, subB_yes hs]
  have := coset_iff hg h1
  unfold baseF at this ⊢
  by_cases e : genF l (shiftF l n (negF l (lowN n))) = shiftF l n (negF l (lowN n))
  · rw [this.2 e, e]; simp
  · have e' : ¬ shiftF l (genF l (shiftF l n (negF l (lowN n)))) (lowN n) = n := fun q => e (this.1 q)
    have i1 : ((shiftF l (genF l (shiftF l n (negF l (lowN n)))) (lowN n) : Int) == (n : Int)) = false := by simp; omega
    have i2 : ((genF l (shiftF l n (negF l (lowN n))) : Int) == (shiftF l n (negF l (lowN n)) : Int)) = false := by simp; omega
    rw [i1, i2]

/-! ### boxes -/
def bxS (l : List Int) (n m d e : Nat) : Nat := sumF l (prSet l 0 d m) (prSet l 0 e (cnt n / m))
def bxAt (l : List Int) (n m d e : Nat) : Bool := decide (cnt (bxS l n m d e) = cnt n) && (List.range (ord l)).any (fun x => decide (shiftF l (bxS l n m d e) x = n))
def bxM (l : List Int) (n m : Nat) : Bool := decide (cnt n % m = 0) && (List.range (ord l)).any (fun d => (List.range (ord l)).any (fun e => bxAt l n m d e))
def bxN (l : List Int) (n : Nat) : Bool := (List.range (cnt n + 1)).any (fun m => decide (1 ≤ m ∧ m * m ≤ cnt n) && bxM l n m)
def boxB (l : List Int) (a : Int) : Bool := isOneB l a && bxN l a.toNat
theorem boxB_no {l : List Int} {a : Int} (h : isOneB l a = false) : boxB l a = false := by unfold boxB; rw [h]; rfl
theorem boxB_yes {l : List Int} {n : Nat} (h : isOneB l n = true) : boxB l n = bxN l n := by unfold boxB; rw [h]; rfl
theorem bxAt_cnt {l : List Int} {n m d e : Nat} (h : ¬ cnt (bxS l n m d e) = cnt n) : bxAt l n m d e = false := by unfold bxAt; simp [h]
theorem bxAt_no {l : List Int} {n m d e : Nat} (h : ∀ x, x < ord l → ¬ shiftF l (bxS l n m d e) x = n) : bxAt l n m d e = false := by
  unfold bxAt
  have : (List.range (ord l)).any (fun x => decide (shiftF l (bxS l n m d e) x = n)) = false := by
    rw [← Bool.not_eq_true, List.any_eq_true]
    rintro ⟨x, hx, hd⟩
    exact h x (List.mem_range.1 hx) (of_decide_eq_true hd)
  rw [this]; simp
theorem bxM_mod {l : List Int} {n m : Nat} (h : ¬ cnt n % m = 0) : bxM l n m = false := by unfold bxM; simp [h]
theorem bxM_no {l : List Int} {n m : Nat} (h : ∀ d, d < ord l → ∀ e, e < ord l → bxAt l n m d e = false) : bxM l n m = false := by
  unfold bxM
  have : (List.range (ord l)).any (fun d => (List.range (ord l)).any (fun e => bxAt l n m d e)) = false := by
    rw [← Bool.not_eq_true, List.any_eq_true]
    rintro ⟨d, hd, hx⟩
    rw [List.any_eq_true] at hx
    obtain ⟨e, he, hy⟩ := hx
    rw [h d (List.mem_range.1 hd) e (List.mem_range.1 he)] at hy; cases hy
  rw [this]; simp
theorem bxN_no {l : List Int} {n k : Nat} (h : ∀ m, 1 ≤ m → m < k → bxM l n m = false) (hk : ¬ k * k ≤ cnt n) : bxN l n = false := by
  unfold bxN
  rw [← Bool.not_eq_true, List.any_eq_true]
  rintro ⟨m, _, hx⟩
  rw [Bool.and_eq_true, decide_eq_true_eq] at hx
  obtain ⟨⟨h1, h2⟩, h3⟩ := hx
  rcases Nat.lt_or_ge m k with hlt | hge
  · rw [h m h1 hlt] at h3; cases h3
  · have := Nat.mul_le_mul hge hge; omega
theorem bxN_hit {l : List Int} {n m d e x : Nat} (h1 : 1 ≤ m) (h2 : m * m ≤ cnt n) (h3 : cnt n % m = 0) (hd : d < ord l) (he : e < ord l) (hx : x < ord l) (h4 : cnt (bxS l n m d e) = cnt n) (h5 : shiftF l (bxS l n m d e) x = n) : bxN l n = true := by
  unfold bxN bxM bxAt
  rw [List.any_eq_true]
  refine ⟨m, List.mem_range.2 (by have := Nat.le_mul_of_pos_left m h1; omega), ?_⟩
  rw [Bool.and_eq_true, Bool.and_eq_true, decide_eq_true_eq, decide_eq_true_eq]
  refine ⟨⟨h1, h2⟩, h3, ?_⟩
  rw [List.any_eq_true]
  refine ⟨d, List.mem_range.2 hd, ?_⟩
  rw [List.any_eq_true]
  refine ⟨e, List.mem_range.2 he, ?_⟩
  rw [Bool.and_eq_true, decide_eq_true_eq, List.any_eq_true]
  exact ⟨h4, x, List.mem_range.2 hx, decide_eq_true h5⟩

/-! ### sets of Sidon -/
def Sid (l : List Int) (L : List Nat) : Prop := ∀ i j k m, i ≤ j → j < L.length → k ≤ m → m < L.length → addF l (nthN L i) (nthN L j) = addF l (nthN L k) (nthN L m) → i = k ∧ j = m
open Classical in
noncomputable def sidL (l : List Int) (L : List Nat) : Bool := decide (Sid l L)
noncomputable def sidB (l : List Int) (a : Int) : Bool := isSetB l a && sidL l (elems a.toNat)
theorem sidB_no {l : List Int} {a : Int} (h : isSetB l a = false) : sidB l a = false := by unfold sidB; rw [h]; rfl
theorem sidB_yes {l : List Int} {n : Nat} (h : isSetB l n = true) : sidB l n = sidL l (elems n) := by unfold sidB; rw [h]; rfl
open Classical in
theorem sidL_t {l : List Int} {L : List Nat} (h : Sid l L) : sidL l L = true := by unfold sidL; exact decide_eq_true h
open Classical in
theorem sidL_f {l : List Int} {L : List Nat} (h : ¬ Sid l L) : sidL l L = false := by unfold sidL; exact decide_eq_false h
/-- the pair (p, q) comes before (i, j) -/
def Bef (i j p q : Nat) : Prop := p < i ∨ (p = i ∧ q < j)
/-- the sums of the pairs before (i, j) are apart, and they are the bits of a number -/
def SidTo (l : List Int) (L : List Nat) (i j seen : Nat) : Prop :=
  (∀ p q r t, p ≤ q → q < L.length → r ≤ t → t < L.length → Bef i j p q → Bef i j r t → addF l (nthN L p) (nthN L q) = addF l (nthN L r) (nthN L t) → p = r ∧ q = t) ∧
    (∀ z, seen.testBit z = true ↔ ∃ p q, p ≤ q ∧ q < L.length ∧ Bef i j p q ∧ addF l (nthN L p) (nthN L q) = z)
theorem SidTo.start (l : List Int) (L : List Nat) : SidTo l L 0 0 0 := by
  refine ⟨fun p q r t _ _ _ _ h => ?_, fun z => ?_⟩
  · rcases h with h | ⟨_, h⟩ <;> omega
  · rw [Nat.zero_testBit]
    constructor
    · intro h; cases h
    · rintro ⟨p, q, _, _, h, _⟩
      rcases h with h | ⟨_, h⟩ <;> omega
theorem SidTo.hit {l : List Int} {L : List Nat} {i j seen : Nat} (h : SidTo l L i j seen) (hij : i ≤ j) (hj : j < L.length) (hs : seen.testBit (addF l (nthN L i) (nthN L j)) = true) : ¬ Sid l L := by
  intro hS
  obtain ⟨p, q, hpq, hq, hb, e⟩ := (h.2 _).1 hs
  obtain ⟨rfl, rfl⟩ := hS p q i j hpq hq hij hj e
  rcases hb with hb | ⟨_, hb⟩ <;> omega
theorem SidTo.next {l : List Int} {L : List Nat} {i j seen : Nat} (h : SidTo l L i j seen) (hij : i ≤ j) (hj : j < L.length) (hs : seen.testBit (addF l (nthN L i) (nthN L j)) = false) :
    SidTo l L i (j + 1) (seen ||| 2 ^ addF l (nthN L i) (nthN L j)) := by
  have hb : ∀ p q, Bef i (j + 1) p q ↔ (Bef i j p q ∨ (p = i ∧ q = j)) := fun p q => by unfold Bef; omega
  refine ⟨fun p q r t h1 h2 h3 h4 h5 h6 e => ?_, fun z => ?_⟩
  · rcases (hb p q).1 h5 with a | ⟨rfl, rfl⟩ <;> rcases (hb r t).1 h6 with b | ⟨rfl, rfl⟩
    · exact h.1 p q r t h1 h2 h3 h4 a b e
    · have := (h.2 _).2 ⟨p, q, h1, h2, a, e⟩; rw [hs] at this; cases this
    · have := (h.2 _).2 ⟨r, t, h3, h4, b, e.symm⟩; rw [hs] at this; cases this
    · exact ⟨rfl, rfl⟩
  · rw [Nat.testBit_or, Nat.testBit_two_pow, Bool.or_eq_true, decide_eq_true_eq, h.2 z]
    constructor
    · rintro (⟨p, q, h1, h2, h3, h4⟩ | e)
      · exact ⟨p, q, h1, h2, (hb p q).2 (Or.inl h3), h4⟩
      · exact ⟨i, j, hij, hj, (hb i j).2 (Or.inr ⟨rfl, rfl⟩), e⟩
    · rintro ⟨p, q, h1, h2, h3, h4⟩
      rcases (hb p q).1 h3 with a | ⟨rfl, rfl⟩
      · exact Or.inl ⟨p, q, h1, h2, a, h4⟩
      · exact Or.inr h4
theorem SidTo.row {l : List Int} {L : List Nat} {i j seen : Nat} (h : SidTo l L i j seen) (hj : j = L.length) : SidTo l L (i + 1) (i + 1) seen := by
  have hb : ∀ p q, p ≤ q → q < L.length → (Bef (i + 1) (i + 1) p q ↔ Bef i j p q) := fun p q h1 h2 => by unfold Bef; omega
  refine ⟨fun p q r t h1 h2 h3 h4 h5 h6 e => h.1 p q r t h1 h2 h3 h4 ((hb p q h1 h2).1 h5) ((hb r t h3 h4).1 h6) e, fun z => ?_⟩
  rw [h.2 z]
  constructor
  · rintro ⟨p, q, h1, h2, h3, h4⟩; exact ⟨p, q, h1, h2, (hb p q h1 h2).2 h3, h4⟩
  · rintro ⟨p, q, h1, h2, h3, h4⟩; exact ⟨p, q, h1, h2, (hb p q h1 h2).1 h3, h4⟩
theorem SidTo.all {l : List Int} {L : List Nat} {i seen : Nat} (h : SidTo l L i i seen) (hi : i = L.length) : Sid l L := fun p q r t h1 h2 h3 h4 e =>
  h.1 p q r t h1 h2 h3 h4 (by unfold Bef; omega) (by unfold Bef; omega) e
end Go.Zz

/- Sets of small doubling fill a coset. No program is named here. -/
namespace Go.Zz

theorem sum_in {l : List Int} {a b x y : Nat} (hx : x < 24) (hy : y < 24) (h1 : a.testBit x = true) (h2 : b.testBit y = true) : (sumF l a b).testBit (addF l x y) = true := testBit_sumF.2 ⟨x, y, hx, h1, hy, h2, rfl⟩
/-- differences of members -/
def difN (l : List Int) (x y : Nat) : Nat := addF l x (negF l y)
def dS (l : List Int) (n : Nat) : Nat := sumF l n (oppF l n)
theorem dS_in {l : List Int} (hg : isGrp l = true) {n x y : Nat} (hn : n < 2 ^ ord l) (hx : n.testBit x = true) (hy : n.testBit y = true) : (dS l n).testBit (difN l x y) = true := by
  have hb := ord_bd hg
  have h1 := bit_lt hn hx
  have h2 := bit_lt hn hy
  exact sum_in (by omega) (negF_bd hg y) hx (testBit_oppF.2 ⟨y, by omega, hy, rfl⟩)
theorem dS_out {l : List Int} {n z : Nat} (h : (dS l n).testBit z = true) : ∃ x y, n.testBit x = true ∧ n.testBit y = true ∧ difN l x y = z := by
  obtain ⟨x, y, _, h1, _, h2, rfl⟩ := testBit_sumF.1 h
  obtain ⟨t, _, h3, rfl⟩ := testBit_oppF.1 h2
  exact ⟨x, t, h1, h3, rfl⟩
section
variable {l : List Int} (hO : Ords l)
include hO
theorem lc (x y z : Nat) : addF l x (addF l y z) = addF l y (addF l x z) := by rw [← addF_assoc l hO, addF_comm l x y, addF_assoc l hO]
theorem back {x y : Nat} (hx : x < ord l) : addF l y (difN l x y) = x := by
  unfold difN
  rw [lc hO, addF_neg l hO, addF_comm, addF_zero l hO _ hx]
theorem neg_add (x y : Nat) : negF l (addF l x y) = addF l (negF l x) (negF l y) := by
  refine addF_cancel hO (x := addF l x y) (negF_lt l hO _) (addF_lt l hO _ _) ?_
  rw [addF_neg l hO, addF_assoc l hO, lc hO y, addF_neg l hO, ← addF_assoc l hO, addF_neg l hO, addF_zero l hO 0 (by have := addF_lt l hO 0 0; omega)]
theorem dif_dif {x y p q : Nat} (h : addF l x p = addF l y q) : difN l x y = difN l q p := by
  refine addF_cancel hO (x := addF l y p) (addF_lt l hO _ _) (addF_lt l hO _ _) ?_
  unfold difN
  have e1 : addF l (addF l y p) (addF l x (negF l y)) = addF l (addF l x p) (addF l y (negF l y)) := by simp only [addF_assoc l hO, addF_comm l, lc hO]
  have e2 : addF l (addF l y p) (addF l q (negF l p)) = addF l (addF l y q) (addF l p (negF l p)) := by simp only [addF_assoc l hO, addF_comm l, lc hO]
  rw [e1, e2, addF_neg l hO, addF_neg l hO, h]
theorem dif_shift (a x y : Nat) : difN l (addF l a x) (addF l a y) = difN l x y := dif_dif hO (by simp only [addF_assoc l hO, addF_comm l, lc hO])
theorem dif_self (x : Nat) : difN l x x = 0 := addF_neg l hO x
theorem dif_lt (x y : Nat) : difN l x y < ord l := addF_lt l hO _ _
end

/-- a difference of a small set is had in many ways -/
theorem meet_big {l : List Int} (hg : isGrp l = true) {n x : Nat} (hn : n < 2 ^ ord l) (hs : 2 * cnt (sumF l n n) < 3 * cnt n) (hx : (dS l n).testBit x = true) : cnt n < 2 * cnt (n &&& shiftF l n x) := by
  have hO := isGrp_ords hg
  have hob := ord_bd hg
  obtain ⟨a, b, ha, hb, rfl⟩ := dS_out hx
  have hal := bit_lt hn ha
  have hbl := bit_lt hn hb
  have s1 : Sub (shiftF l n a) (sumF l n n) := shift_sub (by omega) ha
  have s2 : Sub (shiftF l n b) (sumF l n n) := shift_sub (by omega) hb
  have h1 := cnt_mono (Sub.or s1 s2)
  have h2 := cnt_or_and (shiftF l n a) (shiftF l n b)
  rw [cnt_shift hg hn, cnt_shift hg hn] at h2
  have h3 : Sub (shiftF l n a &&& shiftF l n b) (shiftF l (n &&& shiftF l n (difN l a b)) b) := fun z hz => by
    rw [Nat.testBit_and, Bool.and_eq_true] at hz
    obtain ⟨q, hq, hq2, e1⟩ := testBit_shiftF.1 hz.1
    obtain ⟨p, hp, hp2, e2⟩ := testBit_shiftF.1 hz.2
    refine testBit_shiftF.2 ⟨p, hp, ?_, e2⟩
    rw [Nat.testBit_and, hp2]
    refine testBit_shiftF.2 ⟨q, hq, hq2, ?_⟩
    refine addF_cancel hO (x := b) (addF_lt l hO _ _) (bit_lt hn hp2) ?_
    rw [e2, ← e1, ← addF_assoc l hO, back hO hal]
  have h4 := cnt_mono h3
  rw [cnt_shift hg (Nat.lt_of_le_of_lt Nat.and_le_left hn)] at h4
  omega
theorem common {p q n : Nat} (hn : n < 2 ^ 24) (h1 : Sub p n) (h2 : Sub q n) (h : cnt n < cnt p + cnt q) : ∃ z, p.testBit z = true ∧ q.testBit z = true := by
  have e1 := cnt_mono (Sub.or h1 h2)
  have e2 := cnt_or_and p q
  obtain ⟨z, hz⟩ := bit_of_pos (cnt_ne (a := p &&& q) (by omega))
  rw [Nat.testBit_and, Bool.and_eq_true] at hz
  exact ⟨z, hz⟩
theorem sub_and_l (a b : Nat) : Sub (a &&& b) a := fun i h => by rw [Nat.testBit_and, Bool.and_eq_true] at h; exact h.1
theorem sub_and_r (a b : Nat) : Sub (a &&& b) b := fun i h => by rw [Nat.testBit_and, Bool.and_eq_true] at h; exact h.2
theorem dS_dif {l : List Int} (hg : isGrp l = true) {n x y : Nat} (hn : n < 2 ^ ord l) (hs : 2 * cnt (sumF l n n) < 3 * cnt n) (hx : (dS l n).testBit x = true) (hy : (dS l n).testBit y = true) : (dS l n).testBit (difN l x y) = true := by
  have hO := isGrp_ords hg
  have h1 := meet_big hg hn hs hx
  have h2 := meet_big hg hn hs hy
  obtain ⟨z, hz1, hz2⟩ := common (Nat.lt_of_lt_of_le hn (pow_ord hg)) (sub_and_l n (shiftF l n x)) (sub_and_l n (shiftF l n y)) (by omega)
  obtain ⟨p, _, hp, e1⟩ := testBit_shiftF.1 (sub_and_r _ _ z hz1)
  obtain ⟨q, _, hq, e2⟩ := testBit_shiftF.1 (sub_and_r _ _ z hz2)
  rw [dif_dif hO (show addF l x p = addF l y q by rw [e1, e2])]
  exact dS_in hg hn hq hp
/-- closed under differences -/
def Cl (l : List Int) (h : Nat) : Prop := h < 2 ^ ord l ∧ h.testBit 0 = true ∧ ∀ x y, h.testBit x = true → h.testBit y = true → h.testBit (difN l x y) = true
theorem Cl.neg {l : List Int} (hg : isGrp l = true) {h y : Nat} (hc : Cl l h) (hy : h.testBit y = true) : h.testBit (negF l y) = true := by
  have := hc.2.2 0 y hc.2.1 hy
  unfold difN at this
  rwa [addF_zero l (isGrp_ords hg) _ (negF_lt l (isGrp_ords hg) y)] at this
theorem neg_negN {l : List Int} (hO : Ords l) {y : Nat} (hy : y < ord l) : negF l (negF l y) = y :=
  addF_cancel hO (x := negF l y) (negF_lt l hO _) hy (by rw [addF_neg l hO, addF_comm, addF_neg l hO])
theorem Cl.add {l : List Int} (hg : isGrp l = true) {h x y : Nat} (hc : Cl l h) (hx : h.testBit x = true) (hy : h.testBit y = true) : h.testBit (addF l x y) = true := by
  have := hc.2.2 x (negF l y) hx (hc.neg hg hy)
  unfold difN at this
  rwa [neg_negN (isGrp_ords hg) (bit_lt hc.1 hy)] at this
theorem Cl.gen {l : List Int} (hg : isGrp l = true) {h : Nat} (hc : Cl l h) : genF l h = h := by
  refine Sub.antisymm (genF_least (fun i hi => ?_) (fun i hi => ?_)) (fun i hi => ?_)
  · have : i = 0 := by
      cases i with
      | zero => rfl
      | succ i => rw [Nat.testBit_succ] at hi; simp at hi
    subst this; exact hc.2.1
  · obtain ⟨x, y, _, h1, _, h2, rfl⟩ := testBit_sumF.1 hi
    exact hc.add hg h1 h2
  · have hib := bit_lt hc.1 hi
    have hob := ord_bd hg
    refine genF_sum hg h i ?_
    refine testBit_sumF.2 ⟨0, i, by omega, genF_zero l h, by omega, hi, addF_zero l (isGrp_ords hg) i hib⟩
theorem Cl.sub {l : List Int} (hg : isGrp l = true) {h : Nat} (hc : Cl l h) : subB l (h : Nat) = true := by
  rw [subB_yes (isSetB_of hg hc.1), hc.gen hg]; simp
/-- a shift by a member is the subgroup itself -/
theorem Cl.shift {l : List Int} (hg : isGrp l = true) {h y : Nat} (hc : Cl l h) (hy : h.testBit y = true) : shiftF l h y = h := by
  have hob := ord_bd hg
  have := genF_shift hg (a := h) hy (by have := bit_lt hc.1 hy; omega)
  rwa [hc.gen hg] at this
/-- a shift of a subgroup is a coset -/
theorem Cl.coset {l : List Int} (hg : isGrp l = true) {h x : Nat} (hc : Cl l h) (hx : x < ord l) : cstB l (shiftF l h x : Nat) = true := by
  have hO := isGrp_ords hg
  have hob := ord_bd hg
  have hlt := shiftF_lt hO h x
  have h0 : (shiftF l h x).testBit x = true := testBit_shiftF.2 ⟨0, by omega, hc.2.1, by rw [addF_comm]; exact addF_zero l hO x hx⟩
  have hne := pos_of_bit h0
  have h1 : isOneB l (shiftF l h x : Nat) = true := isOneB_yes (isSetB_of hg hlt) (by omega)
  rw [cstB_sub h1]
  obtain ⟨-, -, hlow, -⟩ := lowN_first hne (Nat.lt_of_lt_of_le hlt (pow_ord hg))
  generalize lowN (shiftF l h x) = y at hlow ⊢
  obtain ⟨z, _, hz, rfl⟩ := testBit_shiftF.1 hlow
  rw [shiftF_shift hg, neg_add hO, addF_assoc l hO, lc hO, addF_comm l (negF l x) x, addF_neg l hO, addF_comm l (negF l z) 0, addF_zero l hO _ (negF_lt l hO z), hc.shift hg (hc.neg hg hz)]
  exact hc.sub hg
theorem row_sum {l : List Int} {n c : Nat} {h : Nat} (hc : ∀ x, h.testBit x = true → c < 2 * cnt (n &&& shiftF l n x)) : ∀ k (m : Nat), k ≤ m → (((c + 1) * (elemsTo h k).length : Nat) : Int) ≤ 2 * totTo (interTo l n n m) k
  | 0, _, _ => by simp [elemsTo, totTo]
  | k + 1, m, hm => by
    have ih := row_sum hc k m (by omega)
    rw [totTo_succ, elemsTo_succ]
    have e : nth (interTo l n n m) k = (cnt (n &&& shiftF l n k) : Int) := by
      unfold interTo
      rw [nth_castL]
      simp [nthN, List.getD, show k < m by omega]
    rw [e]
    cases hb : h.testBit k
    · simp; simp at ih; omega
    · have := hc k hb
      rw [if_pos rfl, List.length_append, Nat.mul_add]
      simp only [List.length_cons, List.length_nil, Nat.zero_add, Nat.mul_one]
      omega
theorem dS_small {l : List Int} (hg : isGrp l = true) {n : Nat} (hn : n < 2 ^ ord l) (h0 : n ≠ 0) (hs : 2 * cnt (sumF l n n) < 3 * cnt n) : cnt (dS l n) < 2 * cnt n := by
  have h1 := row_sum (l := l) (n := n) (c := cnt n) (h := dS l n) (fun x hx => meet_big hg hn hs hx) (ord l) (ord l) (Nat.le_refl _)
  rw [inter_tab hg hn hn, tot_tab hg, cnt_opp hg hn, elemsTo_all (a := dS l n) (ord_bd hg).2 (sumF_lt (isGrp_ords hg) _ _)] at h1
  have h2 : (cnt n + 1) * cnt (dS l n) ≤ 2 * (cnt n * cnt n) := by
    have : (elems (dS l n)).length = cnt (dS l n) := rfl
    rw [this] at h1
    omega
  have hp := cnt_pos (Nat.pos_of_ne_zero h0) (Nat.lt_of_lt_of_le hn (pow_ord hg))
  false_or_by_contra
  rename_i hx
  have h3 : (cnt n + 1) * (2 * cnt n) ≤ (cnt n + 1) * cnt (dS l n) := Nat.mul_le_mul_left _ (by omega)
  have e : (cnt n + 1) * (2 * cnt n) = 2 * (cnt n * cnt n) + 2 * cnt n := by rw [Nat.add_mul, Nat.mul_left_comm, Nat.one_mul]
  omega
theorem small_fact {l : List Int} (hg : isGrp l = true) {n : Nat} (hn : n < 2 ^ ord l) (h0 : n ≠ 0) (hs : 2 * cnt (sumF l n n) < 3 * cnt n) :
    subB l (dS l n : Nat) = true ∧ cstB l (sumF l n (dS l n) : Nat) = true ∧ sumF l n (dS l n) &&& n = n ∧ cnt (sumF l n (dS l n)) = cnt (dS l n) ∧ 2 * cnt (dS l n) < 3 * cnt n ∧ cnt (sumF l n n) = cnt (dS l n) := by
  have hO := isGrp_ords hg
  have hob := ord_bd hg
  obtain ⟨a, ha⟩ := bit_of_pos h0
  have hal := bit_lt hn ha
  have hc : Cl l (dS l n) := ⟨sumF_lt hO _ _, by have := dS_in hg hn ha ha; rwa [dif_self hO] at this, fun x y hx hy => dS_dif hg hn hs hx hy⟩
  -- the coset
  have hd : sumF l n (dS l n) = shiftF l (dS l n) a := by
    refine Sub.antisymm (fun z hz => ?_) (fun z hz => ?_)
    · obtain ⟨p, x, _, hp, _, hx, rfl⟩ := testBit_sumF.1 hz
      refine testBit_shiftF.2 ⟨addF l (difN l p a) x, addF_bd hg _ _, hc.add hg (dS_in hg hn hp ha) hx, ?_⟩
      rw [← addF_assoc l hO, back hO (bit_lt hn hp)]
    · obtain ⟨x, hx, hx2, rfl⟩ := testBit_shiftF.1 hz
      exact sum_in (by omega) hx ha hx2
  have hsubn : Sub n (sumF l n (dS l n)) := fun p hp => by
    have hpl := bit_lt hn hp
    have := sum_in (l := l) (b := dS l n) (y := 0) (by omega) (by omega) hp hc.2.1
    rwa [addF_comm, addF_zero l hO p hpl] at this
  have hcd : cnt (sumF l n (dS l n)) = cnt (dS l n) := by rw [hd, cnt_shift hg hc.1]
  have hbig := dS_small hg hn h0 hs
  -- the sum fills its coset
  have hS : sumF l n n = shiftF l (dS l n) (addF l a a) := by
    refine Sub.antisymm (fun z hz => ?_) (fun z hz => ?_)
    · obtain ⟨p, q, _, hp, _, hq, rfl⟩ := testBit_sumF.1 hz
      refine testBit_shiftF.2 ⟨addF l (difN l p a) (difN l q a), addF_bd hg _ _, hc.add hg (dS_in hg hn hp ha) (dS_in hg hn hq ha), ?_⟩
      have e : addF l (addF l a a) (addF l (difN l p a) (difN l q a)) = addF l (addF l a (difN l p a)) (addF l a (difN l q a)) := by simp only [addF_assoc l hO, addF_comm l, lc hO]
      rw [e, back hO (bit_lt hn hp), back hO (bit_lt hn hq)]
    · have hzl := bit_lt (shiftF_lt hO _ _) hz
      obtain ⟨h, hh, hh2, e⟩ := testBit_shiftF.1 hz
      have hsub2 : Sub (shiftF l (oppF l n) z) (sumF l n (dS l n)) := fun y hy => by
        obtain ⟨u, _, hu, rfl⟩ := testBit_shiftF.1 hy
        obtain ⟨p, _, hp, rfl⟩ := testBit_oppF.1 hu
        rw [hd]
        refine testBit_shiftF.2 ⟨addF l h (difN l a p), addF_bd hg _ _, hc.add hg hh2 (dS_in hg hn ha hp), ?_⟩
        unfold difN
        rw [← e]
        simp only [addF_assoc l hO, addF_comm l, lc hO]
      obtain ⟨y, hy1, hy2⟩ := common (Nat.lt_of_lt_of_le (sumF_lt hO _ _) (pow_ord hg)) hsubn hsub2 (by rw [hcd, cnt_shift hg (oppF_lt hO n), cnt_opp hg hn]; omega)
      obtain ⟨u, _, hu, e2⟩ := testBit_shiftF.1 hy2
      obtain ⟨p, hp24, hp, rfl⟩ := testBit_oppF.1 hu
      have hz2 : addF l p y = z := by
        rw [← e2]
        exact back hO hzl
      rw [← hz2]
      have hyl := bit_lt hn hy1
      exact sum_in hp24 (by omega) hp hy1
  have hcS : cnt (sumF l n n) = cnt (dS l n) := by rw [hS, cnt_shift hg hc.1]
  refine ⟨hc.sub hg, by rw [hd]; exact hc.coset hg hal, ?_, hcd, by omega, hcS⟩
  refine Nat.eq_of_testBit_eq fun i => bool_eq_of ?_
  rw [Nat.testBit_and, Bool.and_eq_true]
  exact ⟨fun h => h.2, fun h => ⟨hsubn i h, h⟩⟩
end Go.Zz

/- append to a slice that is empty without room, or owned behind a world. -/
namespace Go.Zz
open Go.RowKit Go.Proofs
set_option maxHeartbeats 400000

/-- v is the empty slice []int{} that reads as [], or it is owned in a block from w0 on -/
def OwnE (TI : TypeId) (wb w0 w : World) (v : Value) (l : List Int) : Prop :=
  (∃ g, wb.heap.size ≤ g ∧ v = .slice (some ⟨g, 0, none⟩) 0 0 ∧ l = [] ∧ Blk w g TI #[]) ∨ Own TI w0 w v l
theorem OwnE.ext {TI : TypeId} {wb w0 w w' : World} {v : Value} {l : List Int} (h : OwnE TI wb w0 w v l) (hE : Ext w w') : OwnE TI wb w0 w' v l := by
  rcases h with ⟨g, h0, h1, h2, h3⟩ | h
  · exact Or.inl ⟨g, h0, h1, h2, h3.ext hE⟩
  · exact Or.inr (h.ext hE)
theorem OwnE.own {TI : TypeId} {wb w0 w : World} {v : Value} {l : List Int} (h : OwnE TI wb w0 w v l) (hE : Ext wb w0) : Own TI wb w v l := by
  rcases h with ⟨g, h0, rfl, rfl, h3⟩ | h
  · exact ⟨⟨by simp, Or.inr ⟨g, 0, #[], rfl, h0, h3, Nat.le_refl _, Nat.zero_le _, by simp, by simp⟩⟩, by simp⟩
  · exact h.mono hE
theorem OwnE.start {TI : TypeId} {wb w1 w : World} (w0 : World) (hB : Blk w1 wb.heap.size TI #[]) (hE : Ext w1 w) : OwnE TI wb w0 w (.slice (some ⟨wb.heap.size, 0, none⟩) 0 0) [] := Or.inl ⟨_, Nat.le_refl _, rfl, rfl, hB.ext hE⟩
section
variable {P : Program} {ops : Array Oper} {rest : List Oper} {o : Oper} {a : Act} {Q : Exit → Act → World → Prop} {T TI : TypeId}
theorem wp_append1e (hT : IntSl P T TI) (hg : o.guard = none) (s x : Operand) (hop : o.op = Op.call { callee := Callee.builtin Builtin.append, args := #[s, x], argTypes := #[T, T] })
    (wb w0 W : World) (v : Value) (l : List Int) (y : Int) (hO : OwnE TI wb w0 W v l) (hE : Ext w0 W) (hn : l.length < 17592186044416) (hs : a.eval s = v) (hx : a.eval x = .slice (some ⟨W.heap.size, 0, none⟩) 1 1)
    (hK : ∀ v' w', Own TI w0 w' v' (l ++ [y]) → Ext w0 w' → wpList P ops Q rest (a.put o.dst v') w') :
    wpList P ops Q (o :: rest) a (W.alloc (.cells #[.int .i64 y] TI)) := by
  rcases hO with ⟨g, -, rfl, rfl, hB⟩ | hO
  · obtain ⟨i, hi, hz, hs1, hby⟩ := hT.info
    have hE1 := hE.alloc (.cells #[.int .i64 y] TI)
    obtain ⟨v', w', hrun, r1, r2⟩ := run_append_arg_grows (P := P) (w := W.alloc (.cells #[.int .i64 y] TI)) T o.type TI i (.int .i64 0) 1 8 hT.und hi hz hs1 hby rfl (by omega) ⟨g, 0, none⟩ 0 0 [] (by simp) (by simp) ⟨W.heap.size, 0, none⟩ 1 1 [.int .i64 y] rfl (cell_one_new _ _ _) (by omega) (by unfold maxLen; omega) (by omega)
    refine wpList_plain hg fun K hK' => ?_
    unfold Oper.wp
    simp [execOp, hop, resolve, invoke, builtin, hs, hx, hrun, Result.andThen]
    have hO' : Own TI (W.alloc (.cells #[.int .i64 y] TI)) w' v' [y] := ⟨by simpa using r1, by simp⟩
    exact hK' _ _ (hK _ _ (by simpa using hO'.mono hE1) (hE1.grown r2 (by simp)))
  · exact wp_append1 hT hg s x hop w0 W v l y hO hE hn hs hx hK
end
end Go.Zz

/- append(s, xs...) and append(s, y) to a slice that is empty or owned behind a world: as a run, as a step of a region that draws, with what stays. -/
namespace Go.Zz
open Go.RowKit Go.Proofs
set_option maxHeartbeats 1000000

/-- what stays behind an append: blocks of other types -/
def Oth (TI : TypeId) (w w' : World) : Prop := ∀ b T cs, T ≠ TI → Blk w b T cs → Blk w' b T cs
theorem Oth.refl (TI : TypeId) (w : World) : Oth TI w w := fun _ _ _ _ h => h
theorem Oth.trans {TI : TypeId} {a b c : World} (h : Oth TI a b) (k : Oth TI b c) : Oth TI a c := fun b T cs hT hB => k b T cs hT (h b T cs hT hB)
theorem Ext.oth {w w' : World} (h : Ext w w') (TI : TypeId) : Oth TI w w' := fun _ _ _ _ hB => hB.ext h
theorem own_not {TI T : TypeId} {w0 w : World} {v : Value} {l : List Int} (h : Own TI w0 w v l) {g : Nat} {cs : Array Value} (hB : Blk w g T cs) (hT : T ≠ TI) : v.ownBlock ≠ some g := fun e => by
  obtain ⟨h1, h2⟩ := h
  rcases h1.2 with ⟨rfl, _⟩ | ⟨g', cap, cur, rfl, _, hh, _⟩
  · cases e
  · simp [Value.ownBlock] at e
    subst e
    have hB' : w.heap[g']? = some (.cells cs T (0, 0)) := hB
    rw [hB'] at hh
    simp at hh
    exact hT hh.2
theorem oth_grown {TI : TypeId} {w0 w w' : World} {v : Value} {l : List Int} (h : Own TI w0 w v l) (hg : w.grownBy w' v.ownBlock) : Oth TI w w' := fun b T cs hT hB =>
  hB.grown hg fun k hk e => own_not h hB hT (by rw [hk, e])
theorem run_appendsE {P : Program} {T TI : TypeId} (hT : IntSl P T TI) (ty : TypeId) (wb w0 w : World) (v u : Value) (l m : List Int) (hO : OwnE TI wb w0 w v l) (hI : Ints w u m) (hE : Ext w0 w) (hn : l.length + m.length ≤ 17592186044416) :
    ∃ v' w', (Builtin.append_ #[T, T] ty #[v, u]).run P w = .ok v' w' ∧ OwnE TI wb w0 w' v' (l ++ m) ∧ Ext w0 w' ∧ Oth TI w w' := by
  obtain ⟨i, hi, hz, hs1, hby⟩ := hT.info
  obtain ⟨ao, c, rfl, hmc, hml, hc⟩ := hI
  cases ao with
  | none =>
    have hm : m = [] := by
      cases m with
      | nil => rfl
      | cons y m => obtain ⟨_, h, _⟩ := hc 0 (by simp); cases h
    subst hm
    refine ⟨v, w, ?_, by simpa using hO, hE, Oth.refl _ _⟩
    rcases hO with ⟨g, -, rfl, rfl, hB⟩ | hO
    · simp [Builtin.append_, run_underlying hT.und, sizeOf, typeInfo, hi, Builtin.lenOf, Builtin.firstCells, storeCells, Result.andThen]
    · rcases hO.1.2 with ⟨rfl, _⟩ | ⟨g, cap, cur, rfl, _, _, hnc, _⟩
      · simp [Builtin.append_, run_underlying hT.und, sizeOf, typeInfo, hi, Builtin.lenOf, Builtin.firstCells]
      · simp [Builtin.append_, run_underlying hT.und, sizeOf, typeInfo, hi, Builtin.lenOf, Builtin.firstCells, hnc, storeCells, Result.andThen]
  | some ad =>
    have hnews : ∀ j u, (m.map (Value.int .i64))[j]? = some u → w.cell? (ad.add j) = some u := by
      intro j u hu
      have hj : j < m.length := by have := (List.getElem?_eq_some_iff.1 hu).1; simpa using this
      obtain ⟨a', ha', hc'⟩ := hc j hj
      cases ha'
      rw [hc', ← hu, nth_get _ _ hj]; simp [hj]
    rcases hO with ⟨g, h0, rfl, rfl, hB⟩ | hO
    · by_cases hm : m = []
      · subst hm
        have hown : w.ownsRow wb.heap.size TI 1 (.slice (some ⟨g, 0, none⟩) 0 0) 0 [] := by
          have hB' : w.heap[g]? = some (.cells #[] TI (0, 0)) := hB
          exact ⟨by simp, Or.inr ⟨g, 0, #[], rfl, h0, hB', Nat.le_refl _, Nat.zero_le _, by simp, by simp⟩⟩
        refine ⟨_, w, ?_, Or.inl ⟨g, h0, rfl, rfl, hB⟩, hE, Oth.refl _ _⟩
        have hrun := run_append_owned_none (P := P) w wb.heap.size T ty TI i 1 hT.und hi (.slice (some ⟨g, 0, none⟩) 0 0) 0 [] hown
        rw [← hrun]; simp [Builtin.append_, run_underlying hT.und, sizeOf, typeInfo, hi, Builtin.lenOf, Builtin.firstCells, go_sem]
      · have hpos : 0 < m.length := Nat.pos_of_ne_zero (fun e => hm (List.eq_nil_of_length_eq_zero e))
        obtain ⟨v', w', hrun, r1, r2⟩ := run_append_arg_grows (P := P) (w := w) T ty TI i (.int .i64 0) 1 8 hT.und hi hz hs1 hby rfl (by omega) ⟨g, 0, none⟩ 0 0 [] (by simp) (by simp) ad m.length c (m.map (Value.int .i64)) (by simp) hnews (by omega) (by unfold maxLen; omega) (by omega)
        have hO' : Own TI w w' v' m := ⟨by simpa using r1, hml⟩
        have hE2 : Ext w w' := (Ext.refl w).grown r2 (by simp)
        exact ⟨v', w', hrun, Or.inr (by simpa using hO'.mono hE), hE.trans hE2, hE2.oth TI⟩
    · obtain ⟨v', w', hrun, r1, r2, -⟩ := run_append_own (P := P) w w0.heap.size T ty TI i (.int .i64 0) 1 8 hT.und hi hz hs1 hby rfl (by omega) v l.length _ hO.1 ad m.length c (m.map (Value.int .i64)) (by simp) hnews (ints_oneCell _ _) (by unfold maxLen; omega) (by omega) hE.size
      exact ⟨v', w', hrun, Or.inr ⟨by simpa using r1, by simp; omega⟩, hE.grown r2 fun k hk => (hO.blk k hk).1, oth_grown hO r2⟩
/-- as a step of a region that draws its order -/
theorem step_appendsE {P : Program} {ops : Array Oper} {o : Oper} {a : Act} {w : World} {K : Act → World → Prop} {Q : Exit → Act → World → Prop} {E : Prop} {T TI : TypeId} (hT : IntSl P T TI)
    (hg : o.guard = none) (s x : Operand) (hop : o.op = Op.call { callee := Callee.builtin Builtin.append, args := #[s, x], argTypes := #[T, T] })
    (wb w0 : World) (v u : Value) (l m : List Int) (hO : OwnE TI wb w0 w v l) (hI : Ints w u m) (hE : Ext w0 w) (hn : l.length + m.length ≤ 17592186044416) (hs : a.eval s = v) (hx : a.eval x = u)
    (hK : ∀ v' w', OwnE TI wb w0 w' v' (l ++ m) → Ext w0 w' → Oth TI w w' → K (a.put o.dst v') w') :
    if Region.wanted o (yielded ops a.tmps) = true then Oper.wp P o a w K Q else E := by
  have hw : Region.wanted o (yielded ops a.tmps) = true := by simp [Region.wanted, hg]
  rw [if_pos hw]
  obtain ⟨v', w', hrun, h1, h2, h3⟩ := run_appendsE hT o.type wb w0 w v u l m hO hI hE hn
  unfold Oper.wp
  simp [execOp, hop, resolve, invoke, builtin, hs, hx, hrun, Result.andThen]
  exact hK v' w' h1 h2 h3
section
variable {P : Program} {ops : Array Oper} {rest : List Oper} {o : Oper} {a : Act} {Q : Exit → Act → World → Prop} {T TI : TypeId}
theorem wp_appendsE (hT : IntSl P T TI) (hg : o.guard = none) (s x : Operand) (hop : o.op = Op.call { callee := Callee.builtin Builtin.append, args := #[s, x], argTypes := #[T, T] })
    (wb w0 w : World) (v u : Value) (l m : List Int) (hO : OwnE TI wb w0 w v l) (hI : Ints w u m) (hE : Ext w0 w) (hn : l.length + m.length ≤ 17592186044416) (hs : a.eval s = v) (hx : a.eval x = u)
    (hK : ∀ v' w', OwnE TI wb w0 w' v' (l ++ m) → Ext w0 w' → Oth TI w w' → wpList P ops Q rest (a.put o.dst v') w') :
    wpList P ops Q (o :: rest) a w := by
  obtain ⟨v', w', hrun, h1, h2, h3⟩ := run_appendsE hT o.type wb w0 w v u l m hO hI hE hn
  refine wpList_plain hg fun K hK' => ?_
  unfold Oper.wp
  simp [execOp, hop, resolve, invoke, builtin, hs, hx, hrun, Result.andThen]
  exact hK' _ _ (hK v' w' h1 h2 h3)
theorem ints_one (W : World) (y : Int) (TI : TypeId) : Ints (W.alloc (.cells #[.int .i64 y] TI)) (.slice (some ⟨W.heap.size, 0, none⟩) 1 1) [y] := by
  refine ⟨_, 1, rfl, Nat.le_refl _, by simp, fun i hi => ⟨_, rfl, ?_⟩⟩
  match i, hi with
  | 0, _ => simp [go_sem, nth, Addr.add]
/-- append(s, y), with what stays -/
theorem wp_append1K (hT : IntSl P T TI) (hg : o.guard = none) (s x : Operand) (hop : o.op = Op.call { callee := Callee.builtin Builtin.append, args := #[s, x], argTypes := #[T, T] })
    (wb w0 W : World) (v : Value) (l : List Int) (y : Int) (hO : OwnE TI wb w0 W v l) (hE : Ext w0 W) (hn : l.length < 17592186044416) (hs : a.eval s = v) (hx : a.eval x = .slice (some ⟨W.heap.size, 0, none⟩) 1 1)
    (hK : ∀ v' w', OwnE TI wb w0 w' v' (l ++ [y]) → Ext w0 w' → Oth TI W w' → wpList P ops Q rest (a.put o.dst v') w') :
    wpList P ops Q (o :: rest) a (W.alloc (.cells #[.int .i64 y] TI)) :=
  wp_appendsE hT hg s x hop wb w0 _ v _ l [y] (hO.ext ((Ext.refl W).alloc _)) (ints_one W y TI) (hE.alloc _) (by simp; omega) hs hx fun v' w' h1 h2 h3 =>
    hK v' w' h1 h2 ((((Ext.refl W).alloc _).oth TI).trans h3)
end
end Go.Zz

/- What stays where a call writes into one box and grows the slice that lies in it. -/
namespace Go.Zz
open Go.RowKit Go.Proofs
set_option maxHeartbeats 1000000

theorem own_nb {TI : TypeId} {w0 w : World} {v : Value} {l : List Int} {b : Nat} (h : Own TI w0 w v l) (hb : b < w0.heap.size) : v.ownBlock ≠ some b := fun e => by have := (h.blk b e).1; omega
/-- w' is w with new blocks, and writes to block b and to the row o alone -/
structure Fr (b : Nat) (o : Option Nat) (w w' : World) : Prop where
  os : w'.os = w.os
  tape : w'.tape = w.tape
  output : w'.output = w.output
  size : w.heap.size ≤ w'.heap.size
  block : ∀ k, k < w.heap.size → k ≠ b → some k ≠ o → w'.heap[k]? = w.heap[k]?
/-- the row o' is the row o, or newer than w -/
def Nw (o : Option Nat) (w : World) (o' : Option Nat) : Prop := o' = o ∨ ∀ k, o' = some k → w.heap.size ≤ k
theorem Fr.refl (b : Nat) (o : Option Nat) (w : World) : Fr b o w w := ⟨rfl, rfl, rfl, Nat.le_refl _, fun _ _ _ _ => rfl⟩
theorem Nw.refl (o : Option Nat) (w : World) : Nw o w o := Or.inl rfl
theorem Fr.trans {b : Nat} {o o1 : Option Nat} {w w1 w2 : World} (h : Fr b o w w1) (hn : Nw o w o1) (k : Fr b o1 w1 w2) : Fr b o w w2 :=
  ⟨k.os.trans h.os, k.tape.trans h.tape, k.output.trans h.output, Nat.le_trans h.size k.size, fun i hi hb ho => by
    rw [k.block i (Nat.lt_of_lt_of_le hi h.size) hb fun e => ?_, h.block i hi hb ho]
    rcases hn with hn | hn
    · rw [hn] at e; exact ho e
    · have := hn i e.symm; omega⟩
theorem Nw.trans {o o1 o2 : Option Nat} {w w1 : World} (h : Nw o w o1) (hs : w.heap.size ≤ w1.heap.size) (k : Nw o1 w1 o2) : Nw o w o2 := by
  rcases k with k | k
  · rw [k]; exact h
  · exact Or.inr fun i hi => Nat.le_trans hs (k i hi)
theorem Ext.fr {w w' : World} (h : Ext w w') (b : Nat) (o : Option Nat) : Fr b o w w' := ⟨h.os, h.tape, h.output, h.size, fun k hk _ _ => h.block k hk⟩
theorem fr_grown {b : Nat} {o : Option Nat} {w w' : World} (h : w.grownBy w' o) : Fr b o w w' := ⟨h.os, h.tape, h.output, h.size, fun k hk _ ho => h.block k hk ho⟩
theorem fr_set (b : Nat) (o : Option Nat) (w : World) (i : Nat) (v : Value) : Fr b o w (w.setCell ⟨b, i, none⟩ v) :=
  ⟨rfl, rfl, rfl, by simp, fun k _ hb _ => Below.heap_setCell _ _ _ _ (fun e => hb e)⟩
theorem Fr.ext {b : Nat} {o : Option Nat} {w0 w w' : World} (h : Fr b o w w') (hE : Ext w0 w) (hb : w0.heap.size ≤ b) (ho : ∀ k, o = some k → w0.heap.size ≤ k) : Ext w0 w' := by
  have hs := hE.size
  refine ⟨h.os.trans hE.os, h.tape.trans hE.tape, h.output.trans hE.output, Nat.le_trans hs h.size, fun k hk => ?_⟩
  rw [h.block k (Nat.lt_of_lt_of_le hk hs) (by omega) fun e => by have := ho k e.symm; omega]
  exact hE.block k hk
theorem Fr.blk {b : Nat} {o : Option Nat} {w w' : World} (h : Fr b o w w') {c : Nat} {T : TypeId} {cs : Array Value} (hB : Blk w c T cs) (hc : c ≠ b) (ho : o ≠ some c) : Blk w' c T cs := by
  unfold Blk; rw [h.block c hB.lt hc fun e => ho e.symm]; exact hB
theorem Fr.own {b : Nat} {o : Option Nat} {w w' : World} (h : Fr b o w w') {TI : TypeId} {w0 : World} {v : Value} {l : List Int} (hO : Own TI w0 w v l) (h1 : v.ownBlock ≠ some b) (h2 : v.ownBlock = none ∨ v.ownBlock ≠ o) : Own TI w0 w' v l := by
  obtain ⟨⟨hl, hr⟩, hn⟩ := hO
  refine ⟨⟨hl, ?_⟩, hn⟩
  rcases hr with hr | ⟨g, cap, cur, rfl, hg, hh, rest⟩
  · exact Or.inl hr
  · refine Or.inr ⟨g, cap, cur, rfl, hg, ?_, rest⟩
    simp [Value.ownBlock] at h1 h2
    rw [h.block g (Array.getElem?_eq_some_iff.1 hh).1 h1 h2]; exact hh
theorem run_append1F {P : Program} {T TI : TypeId} (hT : IntSl P T TI) (ty : TypeId) (w0 w : World) (v : Value) (l : List Int) (y : Int) (ad : Addr) (hO : Own TI w0 w v l) (hE : Ext w0 w) (hy : ∀ j u, [Value.int .i64 y][j]? = some u → w.cell? (ad.add j) = some u) (hn : l.length < 17592186044416) :
    ∃ v' w', (Builtin.append_ #[T, T] ty #[v, .slice (some ad) 1 1]).run P w = .ok v' w' ∧ Own TI w0 w' v' (l ++ [y]) ∧ w.grownBy w' v.ownBlock ∧ Nw v.ownBlock w v'.ownBlock := by
  obtain ⟨i, hi, hz, hs1, hby⟩ := hT.info
  have h1 := hO.1
  rcases h1.2 with ⟨rfl, hl⟩ | ⟨g, cap, cur, rfl, hg, hh, hnc, hcm, hcs, htk⟩
  · have hl' : l = [] := List.eq_nil_of_length_eq_zero hl
    subst hl'
    obtain ⟨v', w', hrun, r1, r2, -⟩ := run_append_own (P := P) w w.heap.size T ty TI i (.int .i64 0) 1 8 hT.und hi hz hs1 hby rfl (by omega) (.slice none 0 0) 0 [] (World.ownsRow_nil _ _ _ _) ad 1 1 [.int .i64 y] rfl hy (by simp [Value.oneCell']) (by unfold maxLen; omega) (by omega) (Nat.le_refl _)
    have hO' : Own TI w w' v' [y] := ⟨by simpa using r1, by simp⟩
    exact ⟨v', w', hrun, by simpa using hO'.mono hE, r2, Or.inr fun k hk => (hO'.blk k hk).1⟩
  · by_cases hroom : l.length + 1 ≤ cap
    · obtain ⟨w', hrun, r1, r2⟩ := run_append_fits (P := P) w w0.heap.size T ty TI i 1 hT.und hi hs1 g l.length cap _ h1 ad 1 1 [.int .i64 y] rfl hy (by simp [Value.oneCell']) hroom
      exact ⟨_, w', hrun, ⟨by simpa using r1, by simp; omega⟩, r2, Or.inl rfl⟩
    · obtain ⟨v', w', hrun, r1, r2⟩ := run_append_arg_grows (P := P) (w := w) T ty TI i (.int .i64 0) 1 8 hT.und hi hz hs1 hby rfl (by omega) ⟨g, 0, none⟩ l.length cap (l.map (Value.int .i64)) (by simp) (by
        intro j u hu
        have hj : j < l.length := by have := (List.getElem?_eq_some_iff.1 hu).1; simpa using this
        rw [Addr.add_lit, Nat.zero_add, World.ownsRow.cellAt h1 j (by omega)]
        simpa using hu) ad 1 1 [.int .i64 y] rfl hy (by omega) (by unfold maxLen; omega) (by omega)
      have hO' : Own TI w w' v' (l ++ [y]) := ⟨by simpa using r1, by simp; omega⟩
      exact ⟨v', w', hrun, hO'.mono hE, ⟨r2.os, r2.tape, r2.output, r2.size, fun k hk _ => r2.block k hk (by simp)⟩, Or.inr fun k hk => (hO'.blk k hk).1⟩
section
variable {P : Program} {ops : Array Oper} {rest : List Oper} {o : Oper} {a : Act} {Q : Exit → Act → World → Prop} {T TI : TypeId}
/-- append(s, y), with the row that it writes -/
theorem wp_append1F (hT : IntSl P T TI) (hg : o.guard = none) (s x : Operand) (hop : o.op = Op.call { callee := Callee.builtin Builtin.append, args := #[s, x], argTypes := #[T, T] })
    (w0 W : World) (v : Value) (l : List Int) (y : Int) (hO : Own TI w0 W v l) (hE : Ext w0 W) (hn : l.length < 17592186044416) (hs : a.eval s = v) (hx : a.eval x = .slice (some ⟨W.heap.size, 0, none⟩) 1 1)
    (hK : ∀ v' w', Own TI w0 w' v' (l ++ [y]) → W.grownBy w' v.ownBlock → Nw v.ownBlock W v'.ownBlock → wpList P ops Q rest (a.put o.dst v') w') :
    wpList P ops Q (o :: rest) a (W.alloc (.cells #[.int .i64 y] TI)) := by
  obtain ⟨v', w', hrun, h1, h2, h3⟩ := run_append1F hT o.type w0 (W.alloc (.cells #[.int .i64 y] TI)) v l y ⟨W.heap.size, 0, none⟩ (hO.alloc _) (hE.alloc _) (cell_one_new _ _ _) hn
  refine wpList_plain hg fun K hK' => ?_
  unfold Oper.wp
  simp [execOp, hop, resolve, invoke, builtin, hs, hx, hrun, Result.andThen]
  have e : Ext W (W.alloc (.cells #[.int .i64 y] TI)) := (Ext.refl W).alloc _
  refine hK' _ _ (hK v' w' h1 ⟨h2.os.trans e.os, h2.tape.trans e.tape, h2.output.trans e.output, Nat.le_trans e.size h2.size, fun k hk hne => ?_⟩ ?_)
  · rw [h2.block k (Nat.lt_of_lt_of_le hk e.size) hne]; exact e.block k hk
  · rcases h3 with h3 | h3
    · exact Or.inl h3
    · exact Or.inr fun k hk => Nat.le_trans e.size (h3 k hk)
end
end Go.Zz

/- Graphs: connection sets, distances, diameters. -/
namespace Go.Zz
open Go.RowKit Go.Proofs
set_option maxHeartbeats 400000

--%call in 83 same in_any _ _ ({0}) ({1}) _
theorem in_any (a x : Nat) (ha : a < 2 ^ 24) (hx : x ≤ 64) (w : World) :
    Calls Tryz.prog 83 #[.int .i64 a, .int .i64 x] w fun e w' => e = .returned (.bool (a.testBit x)) ∧ w = w' := by
  have hsh := ishr_nat (a := a) (n := x) hx
  have hbt := bit_test' (a := a) (n := x) (by omega) hx
  go_enter Tryz.func83, Tryz.ntmps83
  go_wp2_with fail
  go_ret
  exact ⟨rfl, rfl⟩
theorem in_val (a x : Nat) (ha : a < 2 ^ 24) (hx : x ≤ 64) (w : World) {b : Bool} (hb : a.testBit x = b) :
    Calls Tryz.prog 83 #[.int .i64 a, .int .i64 x] w fun e w' => e = .returned (.bool b) ∧ w = w' := by
  subst hb; exact in_any a x ha hx w
--%call sOrderOf 76 ext sOrderOf_any _ _ _ ({0})
theorem sOrderOf_any (v : Value) (l : List Int) (w : World) (h : Ints w v l) :
    Calls Tryz.prog 76 #[.agg #[v]] w fun e w' => e = .returned (.int .i64 (ordF l)) ∧ Ext w w' := by
  obtain ⟨wb, hwb⟩ : ∃ wb, wb = w.alloc (.cells #[v] 26) := ⟨_, rfl⟩
  have hE0 := (Ext.refl w).alloc (.cells #[v] 26)
  have hb := box_cell w v 26
  rw [← hwb] at hE0 hb
  have hg : ∀ W, Ext wb W → Ints W v l := fun W hW => h.ext (hE0.trans hW)
  have hE := Ext.refl wb
  have Hsz : Hid (w.heap.size + 1 = wb.heap.size) := Lib.hid (by rw [hwb]; simp [go_sem])
  have Hwb := Lib.hid hwb
  clear hwb h
  cases hgr : isGrp l
  · have Ho := Lib.hid (ordF_f hgr)
    go_enter Tryz.func76, Tryz.ntmps76
    go_wp2_with fail
    rw [← Hwb.out]
    go_wp2_with (first | (go_at_call 51; refine (sIsGroup_any _ _ _ (hg _ hE)).mono ?_; rintro e w' ⟨rfl, hE'⟩; replace hE := hE.trans hE'; clear hE'))
    go_ret
    exact ⟨ret_int Ho.out.symm, hE0.trans hE⟩
  · have Ho := Lib.hid (ordF_t hgr)
    have Hgr := Lib.hid hgr
    go_enter Tryz.func76, Tryz.ntmps76
    go_wp2_with fail
    rw [← Hwb.out]
    go_wp2_with (first | (go_at_call 51; refine (sIsGroup_any _ _ _ (hg _ hE)).mono ?_; rintro e w' ⟨rfl, hE'⟩; replace hE := hE.trans hE'; clear hE') | (go_at_call 45; refine (l2Order_any _ _ _ (hg _ hE) (Hgr)).mono ?_; rintro e w' ⟨rfl, hE'⟩; replace hE := hE.trans hE'; clear hE'))
    go_ret
    exact ⟨ret_int Ho.out.symm, hE0.trans hE⟩
--%call l2IsV 101 ext l2Is_val _ _ _ _ ({0}) ({1})
theorem l2Is_any (v : Value) (l : List Int) (x : Int) (w : World) (h : Ints w v l) :
    Calls Tryz.prog 101 #[.agg #[v], .int .i64 x] w fun e w' => e = .returned (.bool (hasB l x)) ∧ Ext w w' := by
  obtain ⟨wb, hwb⟩ : ∃ wb, wb = w.alloc (.cells #[v] 26) := ⟨_, rfl⟩
  have hE0 := (Ext.refl w).alloc (.cells #[v] 26)
  have hb := box_cell w v 26
  rw [← hwb] at hE0 hb
  have hg : ∀ W, Ext wb W → Ints W v l := fun W hW => h.ext (hE0.trans hW)
  have hE := Ext.refl wb
  have Hsz : Hid (w.heap.size + 1 = wb.heap.size) := Lib.hid (by rw [hwb]; simp [go_sem])
  have Hwb := Lib.hid hwb
  clear hwb h
  have ho := ordF_bd l
  by_cases h0 : 0 ≤ x
  · by_cases h1 : x < ordF l
    · have Hh : Hid (hasB l x = true) := Lib.hid (inB_t.2 (by omega))
      go_enter Tryz.func101, Tryz.ntmps101
      go_wp2_with fail
      rw [← Hwb.out]
      go_wp2_with (first | (go_at_call 76; refine (sOrderOf_any _ _ _ (hg _ hE)).mono ?_; rintro e w' ⟨rfl, hE'⟩; replace hE := hE.trans hE'; clear hE'))
      go_ret
      exact ⟨ret_bool (by rw [Hh.out]), hE0.trans hE⟩
    · have Hh : Hid (hasB l x = false) := Lib.hid (inB_f.2 (by omega))
      have h1' : decide (x < ordF l) = false := by simp; omega
      go_enter Tryz.func101, Tryz.ntmps101
      go_wp2_with fail
      rw [← Hwb.out]
      go_wp2_with (first | (go_at_call 76; refine (sOrderOf_any _ _ _ (hg _ hE)).mono ?_; rintro e w' ⟨rfl, hE'⟩; replace hE := hE.trans hE'; clear hE'))
      go_ret
      exact ⟨ret_bool (by rw [Hh.out]), hE0.trans hE⟩
  · have Hh : Hid (hasB l x = false) := Lib.hid (inB_f.2 (by omega))
    have h0' : decide (0 ≤ x) = false := by simp; omega
    go_enter Tryz.func101, Tryz.ntmps101
    go_wp2_with fail
    rw [← Hwb.out]
    go_wp2_with (first | (go_at_call 76; refine (sOrderOf_any _ _ _ (hg _ hE)).mono ?_; rintro e w' ⟨rfl, hE'⟩; replace hE := hE.trans hE'; clear hE'))
    go_ret
    exact ⟨ret_bool (by rw [Hh.out]), hE0.trans hE⟩
theorem l2Is_val (v : Value) (l : List Int) (x : Int) (w : World) (h : Ints w v l) {b : Bool} (hb : hasB l x = b) :
    Calls Tryz.prog 101 #[.agg #[v], .int .i64 x] w fun e w' => e = .returned (.bool b) ∧ Ext w w' := by
  subst hb; exact l2Is_any v l x w h

theorem bit_zero_t {n : Nat} (h2 : n < 2 ^ 24) (h : n.testBit 0 = true) : iand (n : Int) 1 = 1 := by
  rw [Nat.testBit_zero] at h; rw [iand_one (by omega), of_decide_eq_true h]; rfl
theorem bit_zero_f {n : Nat} (h2 : n < 2 ^ 24) (h : n.testBit 0 = false) : iand (n : Int) 1 = 0 := by
  rw [Nat.testBit_zero] at h; rw [iand_one (by omega)]; have := of_decide_eq_false h; have h3 : n % 2 = 0 := by omega
  rw [h3]; rfl

end Go.Zz
