/- FindTile of the reference; ClaimOfTile of both. -/
import Derived.Test.YtgmbjfjihhdenaaGr12
import Derived.Test.YtgmbjfjihhdenaaGr8
import Derived.Test.YtgmbjfjihhdenaaGr11
namespace Go.Zz
open Go.RowKit Go.Proofs
set_option maxHeartbeats 2000000
set_option maxRecDepth 4000

theorem sFindTile_any (v : Value) (l : List Int) (a : Int) (w : World) (h : Ints w v l) :
    Calls Try.prog 122 #[.agg #[v], .int .i64 a] w fun e w' => e = .returned (.tuple #[.int .i64 (ftV l a), .bool (ftB l a)]) ∧ Ext w w' := by
  obtain ⟨wb, hwb⟩ : ∃ wb, wb = w.alloc (.cells #[v] 31) := ⟨_, rfl⟩
  have hE0 := (Ext.refl w).alloc (.cells #[v] 31)
  have hb := box_cell w v 31
  rw [← hwb] at hE0 hb
  have hg : ∀ W, Ext wb W → Ints W v l := fun W hW => h.ext (hE0.trans hW)
  have hE := Ext.refl wb
  have Hsz : Hid (w.heap.size + 1 = wb.heap.size) := Lib.hid (by rw [hwb]; simp [go_sem])
  have Hwb := Lib.hid hwb
  clear hwb h
  have hbx := hb wb hE
  cases hs : isSetB l a
  · have Hs := Lib.hid (ft_no (isOneB_no hs))
    go_enter Try.func122, Try.ntmps122
    go_wp2_with fail
    rw [← Hwb.out]
    go_wp2_with (first | (go_at_call 141; refine (sIsSet_val _ _ _ _ (hg _ hE) (hs)).mono ?_; rintro e w' ⟨rfl, hE'⟩; replace hE := hE.trans hE'; clear hE'))
    exact bodyPost_ret (v := .tuple #[.int .i64 0, .bool false]) (by simp [results, Try.results122, go_sem]) rfl ⟨by rw [Hs.out.1, Hs.out.2], hE0.trans hE⟩
  · obtain ⟨n, rfl, hn, hn24, hgr⟩ := isSetB_nat hs
    by_cases h0 : n = 0
    · subst h0
      have Hs : Hid (ftB l ((0 : Nat) : Int) = false ∧ ftV l ((0 : Nat) : Int) = 0) := Lib.hid (ft_no (isOneB_zero l))
      go_enter Try.func122, Try.ntmps122
      go_wp2_with fail
      rw [← Hwb.out]
      go_wp2_with (first | (go_at_call 141; refine (sIsSet_val _ _ _ _ (hg _ hE) (hs)).mono ?_; rintro e w' ⟨rfl, hE'⟩; replace hE := hE.trans hE'; clear hE'))
      exact bodyPost_ret (v := .tuple #[.int .i64 0, .bool false]) (by simp [results, Try.results122, go_sem]) rfl ⟨by rw [Hs.out.1, Hs.out.2], hE0.trans hE⟩
    · have h00 : ((n : Int) == 0) = false := by rw [beq_eq_false_iff_ne]; omega
      have Hgr := Lib.hid hgr
      have hone := isOneB_yes hs (by omega)
      have hca : 1 ≤ cnt n := cnt_pos (by omega) hn24
      have hob := ord_bd hgr
      have hcT : ∀ W, Ext wb W → Calls Try.prog 203 #[.agg #[v], .int .i64 n, .int .i64 (fullN l : Nat), .int .i64 n, .int .i64 1, .int .i64 1] W fun e w' => ∃ v', e = .returned v' ∧ Own 3 W w' v' (castL (tileL l n 1)) ∧ Ext W w' := fun W hW =>
        sSearch_any v l n Hgr h0 hn (ord l + 1) n 1 1 W (hg W hW) (by omega) hn (by decide) (by omega) (by omega)
      have hlenT : (tileL l n 1).length ≤ 1 := tlS_len _ _ _ _ _ _ (by omega)
      have Ho := Lib.hid hone
      have hs1 := ishl_one (n := ord l) (by omega)
      have hpw := pw_le (n := ord l) hob.2
      have hpw1 := pw_pos (ord l)
      have hwr : IntKind.i64.wrap (((pw (ord l) : Nat) : Int) - 1) = ((fullN l : Nat) : Int) := by
        rw [show (((pw (ord l) : Nat) : Int) - 1) = ((fullN l : Nat) : Int) by unfold fullN; omega]
        apply IntWalk.i64_in; unfold fullN; omega
      clear hone hgr h0 hca
      rcases hT : tileL l n 1 with _ | ⟨x, L⟩
      · have Hs := Lib.hid (ft_nil hT)
        rw [hT] at hcT
        clear hT hlenT
        go_enter Try.func122, Try.ntmps122
        go_wp2_with fail
        rw [← Hwb.out]
        refine (sIsSet_val _ _ _ _ (hg _ hE) hs).mono ?_
        rintro e w1 ⟨rfl, hE1⟩
        have hb' := fun W (hW : Ext w1 W) => hb W (hE1.trans hW)
        go_wp2_with fail
        have hD := (Ext.refl (w1)).drew
        first | (go_region_held3 (fun W => Ext (w1) W ∧ W.cell? ⟨w.heap.size, 0, none⟩ = some v) (exact ⟨(by repeat (first | assumption | exact Ext.refl _ | (apply And.left; assumption) | apply Ext.drew | apply Ext.alloc)), hb' _ (by repeat (first | assumption | exact Ext.refl _ | (apply And.left; assumption) | apply Ext.drew | apply Ext.alloc))⟩) (first | (go_at_call 106; ((with_reducible refine Calls.mono (l2Order_any _ _ _ (hg _ (hE1.trans (by repeat (first | assumption | exact Ext.refl _ | (apply And.left; assumption) | apply Ext.drew | apply Ext.alloc)))) Hgr) ?_); rintro e wH0 ⟨rfl, hX0⟩; have hH0 := Ext.trans (a := w1) (by repeat (first | assumption | exact Ext.refl _ | (apply And.left; assumption) | apply Ext.drew | apply Ext.alloc)) hX0)) | (go_at_call 203; ((with_reducible refine Calls.mono (hcT _ (hE1.trans (by repeat (first | assumption | exact Ext.refl _ | (apply And.left; assumption) | apply Ext.drew | apply Ext.alloc)))) ?_); rintro e wH1 ⟨vT, rfl, hO, hX1⟩; have hH1 := Ext.trans (a := w1) (by repeat (first | assumption | exact Ext.refl _ | (apply And.left; assumption) | apply Ext.drew | apply Ext.alloc)) hX1)))) | (fail "the region with calls")
        obtain ⟨aT, cT, rfl, -⟩ := hO.shape
        rw [show (castL []).length = 0 from rfl] at hO ⊢
        go_wp2_with fail
        exact bodyPost_ret (v := .tuple #[.int .i64 0, .bool false]) (by simp [results, Try.results122, go_sem]) rfl ⟨by rw [Hs.out.1, Hs.out.2], hE0.trans (hE1.trans (by repeat (first | assumption | exact Ext.refl _ | (apply And.left; assumption) | apply Ext.drew | apply Ext.alloc)))⟩
      · rw [hT] at hlenT
        have hL : L = [] := List.eq_nil_of_length_eq_zero (by simp at hlenT; simpa using hlenT)
        subst hL
        have Hs := Lib.hid (ft_yes Ho.out hT)
        rw [hT] at hcT
        clear hT hlenT
        go_enter Try.func122, Try.ntmps122
        go_wp2_with fail
        rw [← Hwb.out]
        refine (sIsSet_val _ _ _ _ (hg _ hE) hs).mono ?_
        rintro e w1 ⟨rfl, hE1⟩
        have hb' := fun W (hW : Ext w1 W) => hb W (hE1.trans hW)
        go_wp2_with fail
        have hD := (Ext.refl (w1)).drew
        first | (go_region_held3 (fun W => Ext (w1) W ∧ W.cell? ⟨w.heap.size, 0, none⟩ = some v) (exact ⟨(by repeat (first | assumption | exact Ext.refl _ | (apply And.left; assumption) | apply Ext.drew | apply Ext.alloc)), hb' _ (by repeat (first | assumption | exact Ext.refl _ | (apply And.left; assumption) | apply Ext.drew | apply Ext.alloc))⟩) (first | (go_at_call 106; ((with_reducible refine Calls.mono (l2Order_any _ _ _ (hg _ (hE1.trans (by repeat (first | assumption | exact Ext.refl _ | (apply And.left; assumption) | apply Ext.drew | apply Ext.alloc)))) Hgr) ?_); rintro e wH0 ⟨rfl, hX0⟩; have hH0 := Ext.trans (a := w1) (by repeat (first | assumption | exact Ext.refl _ | (apply And.left; assumption) | apply Ext.drew | apply Ext.alloc)) hX0)) | (go_at_call 203; ((with_reducible refine Calls.mono (hcT _ (hE1.trans (by repeat (first | assumption | exact Ext.refl _ | (apply And.left; assumption) | apply Ext.drew | apply Ext.alloc)))) ?_); rintro e wH1 ⟨vT, rfl, hO, hX1⟩; have hH1 := Ext.trans (a := w1) (by repeat (first | assumption | exact Ext.refl _ | (apply And.left; assumption) | apply Ext.drew | apply Ext.alloc)) hX1)))) | (fail "the region with calls")
        obtain ⟨ao, c, adr, rfl, hlen, hadr, hcell⟩ := hO.ints.op
        have hix : ∀ W, (Instr.indexAt 22 (.slice ao 1 c) (.int .i64 0)).run Try.prog W = .ok (.pointer (some (adr 0))) W := fun W => ints_index (c := c) (n := (castL [x]).length) elI szI hadr 0 W (by simp [castL])
        have hck : wH1.cell? (adr 0) = some (.int .i64 (x : Int)) := hcell 0 wH1 (by simp [castL]) (Ext.refl _)
        clear hlen hadr hcell
        rw [show (castL [x]).length = 1 from rfl] at hO ⊢
        go_wp2_with fail
        exact bodyPost_ret (v := .tuple #[.int .i64 x, .bool true]) (by simp [results, Try.results122, go_sem]) rfl ⟨by rw [Hs.out.1, Hs.out.2], hE0.trans (hE1.trans (by repeat (first | assumption | exact Ext.refl _ | (apply And.left; assumption) | apply Ext.drew | apply Ext.alloc)))⟩
end Go.Zz

/- Cosets, boxes, sets of Sidon. No program is named here. -/
namespace Go.Zz

theorem shiftF_shift {l : List Int} (h : isGrp l = true) (a x y : Nat) : shiftF l (shiftF l a x) y = shiftF l a (addF l y x) := by
  have ho := isGrp_ords h
  apply Nat.eq_of_testBit_eq
  intro z
  apply bool_eq_of
  rw [testBit_shiftF, testBit_shiftF]
  constructor
  · rintro ⟨u, _, hu, rfl⟩
    obtain ⟨t, ht, hb, rfl⟩ := testBit_shiftF.1 hu
    exact ⟨t, ht, hb, addF_assoc l ho y x t⟩
  · rintro ⟨t, ht, hb, rfl⟩
    exact ⟨addF l x t, addF_bd h x t, testBit_shiftF.2 ⟨t, ht, hb, rfl⟩, (addF_assoc l ho y x t).symm⟩
theorem shiftF_none {l : List Int} (h : isGrp l = true) {a : Nat} (ha : a < 2 ^ ord l) : shiftF l a 0 = a := by
  apply Nat.eq_of_testBit_eq
  intro i
  apply bool_eq_of
  rw [testBit_shiftF]
  constructor
  · rintro ⟨y, _, hy, e⟩
    rw [addF_zero l (isGrp_ords h) y (bit_lt ha hy)] at e
    subst e; exact hy
  · intro hi
    have := bit_lt ha hi
    exact ⟨i, Nat.lt_of_lt_of_le this (ord_bd h).2, hi, addF_zero l (isGrp_ords h) i this⟩
/-- a coset is a shift of a subgroup, by its lowest element -/
theorem coset_iff {l : List Int} (h : isGrp l = true) {n : Nat} (hn : n < 2 ^ ord l) : shiftF l (baseF l n) (lowN n) = n ↔ baseF l n = shiftF l n (negF l (lowN n)) := by
  have ho := isGrp_ords h
  have e1 : addF l (negF l (lowN n)) (lowN n) = 0 := by rw [addF_comm]; exact addF_neg l ho _
  constructor
  · intro e
    have : shiftF l (shiftF l (baseF l n) (lowN n)) (negF l (lowN n)) = shiftF l n (negF l (lowN n)) := by rw [e]
    rw [shiftF_shift h, e1, shiftF_none h (show baseF l n < 2 ^ ord l from genF_lt h _)] at this
    exact this
  · intro e
    rw [e, shiftF_shift h, addF_neg l ho, shiftF_none h hn]
def cstB (l : List Int) (a : Int) : Bool := isOneB l a && decide (hullF l a = a)
theorem cstB_no {l : List Int} {a : Int} (h : isOneB l a = false) : cstB l a = false := by unfold cstB; rw [h]; rfl
theorem cstB_hull {l : List Int} {n : Nat} (h : isOneB l n = true) : cstB l n = (hullF l n == (n : Int)) := by unfold cstB; rw [h]; rfl
theorem cstB_sub {l : List Int} {n : Nat} (h : isOneB l n = true) : cstB l n = subB l (shiftF l n (negF l (lowN n)) : Nat) := by
  obtain ⟨n', e, h0, h1, h2, hg⟩ := isOneB_nat h
  obtain rfl : n = n' := by omega
  have hs : isSetB l (shiftF l n (negF l (lowN n)) : Nat) = true := isSetB_of hg (shiftF_lt (isGrp_ords hg) _ _)
  rw [cstB_hull h, hullF_yes h, subB_yes hs]
  have := coset_iff hg h1
  unfold baseF at this ⊢
  by_cases e : genF l (shiftF l n (negF l (lowN n))) = shiftF l n (negF l (lowN n))
  · rw [this.2 e, e]; simp
  · have e' : ¬ shiftF l (genF l (shiftF l n (negF l (lowN n)))) (lowN n) = n := fun q => e (this.1 q)
    have i1 : ((shiftF l (genF l (shiftF l n (negF l (lowN n)))) (lowN n) : Int) == (n : Int)) = false := by simp; omega
    have i2 : ((genF l (shiftF l n (negF l (lowN n))) : Int) == (shiftF l n (negF l (lowN n)) : Int)) = false := by simp; omega
    rw [i1, i2]

/-! ### boxes -/
def bxS (l : List Int) (n m d e : Nat) : Nat := sumF l (prSet l 0 d m) (prSet l 0 e (cnt n / m))
def bxAt (l : List Int) (n m d e : Nat) : Bool := decide (cnt (bxS l n m d e) = cnt n) && (List.range (ord l)).any (fun x => decide (shiftF l (bxS l n m d e) x = n))
def bxM (l : List Int) (n m : Nat) : Bool := decide (cnt n % m = 0) && (List.range (ord l)).any (fun d => (List.range (ord l)).any (fun e => bxAt l n m d e))
def bxN (l : List Int) (n : Nat) : Bool := (List.range (cnt n + 1)).any (fun m => decide (1 ≤ m ∧ m * m ≤ cnt n) && bxM l n m)
def boxB (l : List Int) (a : Int) : Bool := isOneB l a && bxN l a.toNat
theorem boxB_no {l : List Int} {a : Int} (h : isOneB l a = false) : boxB l a = false := by unfold boxB; rw [h]; rfl
theorem boxB_yes {l : List Int} {n : Nat} (h : isOneB l n = true) : boxB l n = bxN l n := by unfold boxB; rw [h]; rfl
theorem bxAt_cnt {l : List Int} {n m d e : Nat} (h : ¬ cnt (bxS l n m d e) = cnt n) : bxAt l n m d e = false := by unfold bxAt; simp [h]
theorem bxAt_no {l : List Int} {n m d e : Nat} (h : ∀ x, x < ord l → ¬ shiftF l (bxS l n m d e) x = n) : bxAt l n m d e = false := by
  unfold bxAt
  have : (List.range (ord l)).any (fun x => decide (shiftF l (bxS l n m d e) x = n)) = false := by
    rw [← Bool.not_eq_true, List.any_eq_true]
    rintro ⟨x, hx, hd⟩
    exact h x (List.mem_range.1 hx) (of_decide_eq_true hd)
  rw [this]; simp
theorem bxM_mod {l : List Int} {n m : Nat} (h : ¬ cnt n % m = 0) : bxM l n m = false := by unfold bxM; simp [h]
theorem bxM_no {l : List Int} {n m : Nat} (h : ∀ d, d < ord l → ∀ e, e < ord l → bxAt l n m d e = false) : bxM l n m = false := by
  unfold bxM
  have : (List.range (ord l)).any (fun d => (List.range (ord l)).any (fun e => bxAt l n m d e)) = false := by
    rw [← Bool.not_eq_true, List.any_eq_true]
    rintro ⟨d, hd, hx⟩
    rw [List.any_eq_true] at hx
    obtain ⟨e, he, hy⟩ := hx
    rw [h d (List.mem_range.1 hd) e (List.mem_range.1 he)] at hy; cases hy
  rw [this]; simp
theorem bxN_no {l : List Int} {n k : Nat} (h : ∀ m, 1 ≤ m → m < k → bxM l n m = false) (hk : ¬ k * k ≤ cnt n) : bxN l n = false := by
  unfold bxN
  rw [← Bool.not_eq_true, List.any_eq_true]
  rintro ⟨m, _, hx⟩
  rw [Bool.and_eq_true, decide_eq_true_eq] at hx
  obtain ⟨⟨h1, h2⟩, h3⟩ := hx
  rcases Nat.lt_or_ge m k with hlt | hge
  · rw [h m h1 hlt] at h3; cases h3
  · have := Nat.mul_le_mul hge hge; omega
theorem bxN_hit {l : List Int} {n m d e x : Nat} (h1 : 1 ≤ m) (h2 : m * m ≤ cnt n) (h3 : cnt n % m = 0) (hd : d < ord l) (he : e < ord l) (hx : x < ord l) (h4 : cnt (bxS l n m d e) = cnt n) (h5 : shiftF l (bxS l n m d e) x = n) : bxN l n = true := by
  unfold bxN bxM bxAt
  rw [List.any_eq_true]
  refine ⟨m, List.mem_range.2 (by have := Nat.le_mul_of_pos_left m h1; omega), ?_⟩
  rw [Bool.and_eq_true, Bool.and_eq_true, decide_eq_true_eq, decide_eq_true_eq]
  refine ⟨⟨h1, h2⟩, h3, ?_⟩
  rw [List.any_eq_true]
  refine ⟨d, List.mem_range.2 hd, ?_⟩
  rw [List.any_eq_true]
  refine ⟨e, List.mem_range.2 he, ?_⟩
  rw [Bool.and_eq_true, decide_eq_true_eq, List.any_eq_true]
  exact ⟨h4, x, List.mem_range.2 hx, decide_eq_true h5⟩

/-! ### sets of Sidon -/
def Sid (l : List Int) (L : List Nat) : Prop := ∀ i j k m, i ≤ j → j < L.length → k ≤ m → m < L.length → addF l (nthN L i) (nthN L j) = addF l (nthN L k) (nthN L m) → i = k ∧ j = m
open Classical in
noncomputable def sidL (l : List Int) (L : List Nat) : Bool := decide (Sid l L)
noncomputable def sidB (l : List Int) (a : Int) : Bool := isSetB l a && sidL l (elems a.toNat)
theorem sidB_no {l : List Int} {a : Int} (h : isSetB l a = false) : sidB l a = false := by unfold sidB; rw [h]; rfl
theorem sidB_yes {l : List Int} {n : Nat} (h : isSetB l n = true) : sidB l n = sidL l (elems n) := by unfold sidB; rw [h]; rfl
open Classical in
theorem sidL_t {l : List Int} {L : List Nat} (h : Sid l L) : sidL l L = true := by unfold sidL; exact decide_eq_true h
open Classical in
theorem sidL_f {l : List Int} {L : List Nat} (h : ¬ Sid l L) : sidL l L = false := by unfold sidL; exact decide_eq_false h
/-- the pair (p, q) comes before (i, j) -/
def Bef (i j p q : Nat) : Prop := p < i ∨ (p = i ∧ q < j)
/-- the sums of the pairs before (i, j) are apart, and they are the bits of a number -/
def SidTo (l : List Int) (L : List Nat) (i j seen : Nat) : Prop :=
  (∀ p q r t, p ≤ q → q < L.length → r ≤ t → t < L.length → Bef i j p q → Bef i j r t → addF l (nthN L p) (nthN L q) = addF l (nthN L r) (nthN L t) → p = r ∧ q = t) ∧
    (∀ z, seen.testBit z = true ↔ ∃ p q, p ≤ q ∧ q < L.length ∧ Bef i j p q ∧ addF l (nthN L p) (nthN L q) = z)
theorem SidTo.start (l : List Int) (L : List Nat) : SidTo l L 0 0 0 := by
  refine ⟨fun p q r t _ _ _ _ h => ?_, fun z => ?_⟩
  · rcases h with h | ⟨_, h⟩ <;> omega
  · rw [Nat.zero_testBit]
    constructor
    · intro h; cases h
    · rintro ⟨p, q, _, _, h, _⟩
      rcases h with h | ⟨_, h⟩ <;> omega
theorem SidTo.hit {l : List Int} {L : List Nat} {i j seen : Nat} (h : SidTo l L i j seen) (hij : i ≤ j) (hj : j < L.length) (hs : seen.testBit (addF l (nthN L i) (nthN L j)) = true) : ¬ Sid l L := by
  intro hS
  obtain ⟨p, q, hpq, hq, hb, e⟩ := (h.2 _).1 hs
  obtain ⟨rfl, rfl⟩ := hS p q i j hpq hq hij hj e
  rcases hb with hb | ⟨_, hb⟩ <;> omega
theorem SidTo.next {l : List Int} {L : List Nat} {i j seen : Nat} (h : SidTo l L i j seen) (hij : i ≤ j) (hj : j < L.length) (hs : seen.testBit (addF l (nthN L i) (nthN L j)) = false) :
    SidTo l L i (j + 1) (seen ||| 2 ^ addF l (nthN L i) (nthN L j)) := by
  have hb : ∀ p q, Bef i (j + 1) p q ↔ (Bef i j p q ∨ (p = i ∧ q = j)) := fun p q => by unfold Bef; omega
  refine ⟨fun p q r t h1 h2 h3 h4 h5 h6 e => ?_, fun z => ?_⟩
  · rcases (hb p q).1 h5 with a | ⟨rfl, rfl⟩ <;> rcases (hb r t).1 h6 with b | ⟨rfl, rfl⟩
    · exact h.1 p q r t h1 h2 h3 h4 a b e
    · have := (h.2 _).2 ⟨p, q, h1, h2, a, e⟩; rw [hs] at this; cases this
    · have := (h.2 _).2 ⟨r, t, h3, h4, b, e.symm⟩; rw [hs] at this; cases this
    · exact ⟨rfl, rfl⟩
  · rw [Nat.testBit_or, Nat.testBit_two_pow, Bool.or_eq_true, decide_eq_true_eq, h.2 z]
    constructor
    · rintro (⟨p, q, h1, h2, h3, h4⟩ | e)
      · exact ⟨p, q, h1, h2, (hb p q).2 (Or.inl h3), h4⟩
      · exact ⟨i, j, hij, hj, (hb i j).2 (Or.inr ⟨rfl, rfl⟩), e⟩
    · rintro ⟨p, q, h1, h2, h3, h4⟩
      rcases (hb p q).1 h3 with a | ⟨rfl, rfl⟩
      · exact Or.inl ⟨p, q, h1, h2, a, h4⟩
      · exact Or.inr h4
theorem SidTo.row {l : List Int} {L : List Nat} {i j seen : Nat} (h : SidTo l L i j seen) (hj : j = L.length) : SidTo l L (i + 1) (i + 1) seen := by
  have hb : ∀ p q, p ≤ q → q < L.length → (Bef (i + 1) (i + 1) p q ↔ Bef i j p q) := fun p q h1 h2 => by unfold Bef; omega
  refine ⟨fun p q r t h1 h2 h3 h4 h5 h6 e => h.1 p q r t h1 h2 h3 h4 ((hb p q h1 h2).1 h5) ((hb r t h3 h4).1 h6) e, fun z => ?_⟩
  rw [h.2 z]
  constructor
  · rintro ⟨p, q, h1, h2, h3, h4⟩; exact ⟨p, q, h1, h2, (hb p q h1 h2).2 h3, h4⟩
  · rintro ⟨p, q, h1, h2, h3, h4⟩; exact ⟨p, q, h1, h2, (hb p q h1 h2).1 h3, h4⟩
theorem SidTo.all {l : List Int} {L : List Nat} {i seen : Nat} (h : SidTo l L i i seen) (hi : i = L.length) : Sid l L := fun p q r t h1 h2 h3 h4 e =>
  h.1 p q r t h1 h2 h3 h4 (by unfold Bef; omega) (by unfold Bef; omega) e
end Go.Zz

/- Plain facts: a number put into a list, the tiles of a search are distinct. No program is named here. -/
namespace Go.Zz

/-- where n is put: behind the last number that is not greater -/
def pkN (L : List Nat) (n : Nat) : Nat → Nat
  | 0 => 0
  | k + 1 => if n < nthN L k then pkN L n k else k + 1
theorem pkN_down {L : List Nat} {n k : Nat} (h : n < nthN L k) : pkN L n (k + 1) = pkN L n k := by rw [pkN, if_pos h]
theorem pkN_stop {L : List Nat} {n k : Nat} (h : ¬ n < nthN L k) : pkN L n (k + 1) = k + 1 := by rw [pkN, if_neg h]
def putAt (L : List Nat) (n k : Nat) : List Nat := L.take k ++ n :: L.drop k
def putN (L : List Nat) (n : Nat) : List Nat := if 0 < pkN L n L.length ∧ nthN L (pkN L n L.length - 1) = n then L else putAt L n (pkN L n L.length)
theorem pkN_le (L : List Nat) (n : Nat) : ∀ k, pkN L n k ≤ k
  | 0 => Nat.le_refl _
  | k + 1 => by
    unfold pkN; split
    · exact Nat.le_succ_of_le (pkN_le L n k)
    · exact Nat.le_refl _
theorem putN_old {L : List Nat} {n k : Nat} (hk : pkN L n L.length = k + 1) (h : nthN L k = n) : putN L n = L := by
  unfold putN; rw [hk, if_pos ⟨by omega, h⟩]
theorem putN_zero {L : List Nat} {n : Nat} (hk : pkN L n L.length = 0) : putN L n = putAt L n 0 := by
  unfold putN; rw [hk, if_neg (by omega)]
theorem putN_new {L : List Nat} {n k : Nat} (hk : pkN L n L.length = k + 1) (h : ¬ nthN L k = n) : putN L n = putAt L n (k + 1) := by
  unfold putN; rw [hk, if_neg (fun e => h e.2)]
theorem putAt_len {L : List Nat} {n k : Nat} (hk : k ≤ L.length) : (putAt L n k).length = L.length + 1 := by
  unfold putAt; rw [List.length_append, List.length_cons, List.length_take, List.length_drop]; omega
theorem mem_putAt {L : List Nat} {n k x : Nat} : x ∈ putAt L n k ↔ x = n ∨ x ∈ L := by
  unfold putAt
  rw [List.mem_append, List.mem_cons]
  have h : x ∈ L ↔ x ∈ L.take k ∨ x ∈ L.drop k := by rw [← List.mem_append, List.take_append_drop]
  rw [h]
  constructor
  · rintro (a | a | a)
    · exact Or.inr (Or.inl a)
    · exact Or.inl a
    · exact Or.inr (Or.inr a)
  · rintro (a | a | a)
    · exact Or.inr (Or.inl a)
    · exact Or.inl a
    · exact Or.inr (Or.inr a)
theorem putN_cases (L : List Nat) (n : Nat) : (putN L n = L ∧ n ∈ L) ∨ putN L n = putAt L n (pkN L n L.length) := by
  unfold putN
  split
  · next h =>
    refine Or.inl ⟨rfl, ?_⟩
    have hle := pkN_le L n L.length
    have := nthN_mem (L := L) (k := pkN L n L.length - 1) (by omega)
    rwa [h.2] at this
  · exact Or.inr rfl
theorem mem_putN {L : List Nat} {n x : Nat} : x ∈ putN L n ↔ x = n ∨ x ∈ L := by
  rcases putN_cases L n with ⟨e, h⟩ | e
  · rw [e]
    constructor
    · exact Or.inr
    · rintro (rfl | a)
      · exact h
      · exact a
  · rw [e]; exact mem_putAt
theorem putN_len_new {L : List Nat} {n : Nat} (h : n ∉ L) : (putN L n).length = L.length + 1 := by
  rcases putN_cases L n with ⟨-, h2⟩ | e
  · exact absurd h2 h
  · rw [e]; exact putAt_len (pkN_le _ _ _)
theorem putN_len (L : List Nat) (n : Nat) : (putN L n).length ≤ L.length + 1 := by
  rcases putN_cases L n with ⟨e, -⟩ | e
  · rw [e]; omega
  · rw [e, putAt_len (pkN_le _ _ _)]; exact Nat.le_refl _
/-- the first k numbers of a list, put one by one -/
def putTo (T : List Nat) : Nat → List Nat
  | 0 => []
  | k + 1 => putN (putTo T k) (nthN T k)
theorem putTo_len (T : List Nat) : ∀ k, (putTo T k).length ≤ k
  | 0 => Nat.le_refl _
  | k + 1 => by have := putTo_len T k; have := putN_len (putTo T k) (nthN T k); unfold putTo; omega
theorem putTo_nodup {T : List Nat} (h : T.Nodup) : ∀ k, k ≤ T.length → (putTo T k).length = k ∧ ∀ x ∈ putTo T k, x ∈ T.take k
  | 0, _ => ⟨rfl, by simp [putTo]⟩
  | k + 1, hk => by
    obtain ⟨h1, h2⟩ := putTo_nodup h k (by omega)
    have hn : nthN T k ∉ putTo T k := fun e => by
      have := h2 _ e
      rw [← List.take_append_drop k T, List.nodup_append] at h
      have h4 : nthN T k ∈ T.drop k := by
        have e2 : nthN T k = T[k]'(by omega) := by simp [nthN, List.getD, show k < T.length by omega]
        rw [List.drop_eq_getElem_cons (by omega), e2]; exact List.mem_cons_self
      exact h.2.2 _ this _ h4 rfl
    refine ⟨by unfold putTo; rw [putN_len_new hn, h1], fun x hx => ?_⟩
    unfold putTo at hx
    rw [take_nthN T k (by omega), List.mem_append, List.mem_singleton]
    rcases mem_putN.1 hx with rfl | hx
    · exact Or.inr rfl
    · exact Or.inl (h2 x hx)

/-! ### the tiles of a search are distinct -/
/-- what a search from (u, b) leads to -/
def Lead (l : List Int) (a u b y : Nat) : Prop := ∀ d, (b.testBit d = true → y.testBit d = true) ∧ (y.testBit d = true → b.testBit d = true ∨ shiftF l a d &&& u = 0)
theorem and_zero_bit {a b i : Nat} (h : a &&& b = 0) (ha : a.testBit i = true) : b.testBit i = false := by
  cases hb : b.testBit i
  · rfl
  · have : (a &&& b).testBit i = true := by rw [Nat.testBit_and, ha, hb]; rfl
    rw [h, Nat.zero_testBit] at this; cases this
theorem and_zero_sub {a b c : Nat} (h : a &&& (b ||| c) = 0) : a &&& b = 0 := by
  apply Nat.eq_of_testBit_eq
  intro i
  rw [Nat.zero_testBit, Nat.testBit_and]
  cases ha : a.testBit i
  · rfl
  · have := and_zero_bit h ha
    rw [Nat.testBit_or, Bool.or_eq_false_iff] at this
    rw [this.1]; rfl
theorem Lead.back {l : List Int} {a u b D y : Nat} (hz : shiftF l a D &&& u = 0) (h : Lead l a (u ||| shiftF l a D) (b ||| 2 ^ D) y) : Lead l a u b y := fun d => by
  obtain ⟨h1, h2⟩ := h d
  refine ⟨fun hb => h1 (by rw [Nat.testBit_or, hb]; rfl), fun hy => ?_⟩
  rcases h2 hy with h3 | h3
  · rw [Nat.testBit_or, Bool.or_eq_true, Nat.testBit_two_pow] at h3
    rcases h3 with h3 | h3
    · exact Or.inl h3
    · have : D = d := by simpa using h3
      subst this; exact Or.inr hz
  · exact Or.inr (and_zero_sub h3)
theorem tlS_fold {c : Nat → Prop} [DecidablePred c] {G : Nat → Nat → List Nat} {Q : Nat → Nat → Prop} {E : List Nat} {m : Nat} (hG : ∀ x k, x ∈ E → c x → (G x k).Nodup ∧ ∀ y ∈ G x k, Q x y)
    (hQ : ∀ x ∈ E, ∀ x' ∈ E, ∀ y, c x → c x' → Q x y → Q x' y → x = x') :
    ∀ (L pre out : List Nat), (pre ++ L).Nodup → (∀ x ∈ pre ++ L, x ∈ E) → out.Nodup → (∀ y ∈ out, ∃ x ∈ pre, c x ∧ Q x y) →
      (L.foldl (fun (out : List Nat) (x : Nat) => if out.length < m ∧ c x then out ++ G x (m - out.length) else out) out).Nodup ∧ ∀ y ∈ L.foldl (fun (out : List Nat) (x : Nat) => if out.length < m ∧ c x then out ++ G x (m - out.length) else out) out, ∃ x ∈ pre ++ L, c x ∧ Q x y := by
  intro L
  induction L with
  | nil => intro pre out _ _ h3 h4; exact ⟨h3, by simpa using h4⟩
  | cons x L ih =>
    intro pre out h1 h2 h3 h4
    have e : pre ++ x :: L = (pre ++ [x]) ++ L := by simp
    rw [List.foldl_cons, e]
    rw [e] at h1 h2
    refine ih (pre ++ [x]) _ h1 h2 ?_ ?_
    · split
      · next hc =>
        have hx : x ∈ E := h2 x (by simp)
        obtain ⟨g1, g2⟩ := hG x (m - out.length) hx hc.2
        rw [List.nodup_append]
        refine ⟨h3, g1, fun y hy z hz e => ?_⟩
        subst e
        obtain ⟨x', hx', hc', hq⟩ := h4 y hy
        have := hQ x' (h2 x' (by simp [hx'])) x hx y hc' hc.2 hq (g2 y hz)
        subst this
        rw [List.nodup_append] at h1
        have h5 := h1.1
        rw [List.nodup_append] at h5
        exact h5.2.2 _ hx' _ (by simp) rfl
      · exact h3
    · intro y hy
      split at hy
      · next hc =>
        rw [List.mem_append] at hy
        rcases hy with hy | hy
        · obtain ⟨x', hx', hq⟩ := h4 y hy; exact ⟨x', by simp [hx'], hq⟩
        · exact ⟨x, by simp, hc.2, (hG x _ (h2 x (by simp)) hc.2).2 y hy⟩
      · obtain ⟨x', hx', hq⟩ := h4 y hy; exact ⟨x', by simp [hx'], hq⟩
theorem dF_add {l : List Int} (hg : isGrp l = true) {u x : Nat} (hu : lowZ u < ord l) : addF l (dF l u x) x = lowZ u := by
  unfold dF
  rw [addF_assoc l (isGrp_ords hg), addF_comm l (negF l x) x, addF_neg l (isGrp_ords hg), addF_comm l, addF_zero l (isGrp_ords hg) _ hu]
theorem low_free {l : List Int} {u : Nat} (hu : u < 2 ^ ord l) (ho : ord l ≤ 24) (h : u ≠ fullN l) : lowZ u < ord l ∧ u.testBit (lowZ u) = false := by
  have hex : ∃ e, u.testBit e = false ∧ e < ord l := Classical.byContradiction fun hn => h (not_full hu (e := ord l) (fun j hj => Classical.byContradiction fun hb => hn ⟨j, by simpa using hb, hj⟩) (Nat.le_refl _))
  have key : ∀ n, (∃ e, e < n ∧ u.testBit e = false) → ∃ e, e < n ∧ u.testBit e = false ∧ ∀ j, j < e → u.testBit j = true := by
    intro n
    induction n with
    | zero => rintro ⟨e, he, _⟩; omega
    | succ n ih =>
      rintro ⟨e, he, hb⟩
      by_cases hc : ∃ e, e < n ∧ u.testBit e = false
      · obtain ⟨e', h1, h2⟩ := ih hc; exact ⟨e', by omega, h2⟩
      · have e0 : e = n := Classical.byContradiction fun hn => hc ⟨e, by omega, hb⟩
        subst e0
        exact ⟨e, by omega, hb, fun j hj => Classical.byContradiction fun hb => hc ⟨j, hj, by simpa using hb⟩⟩
  obtain ⟨e, he, hb⟩ := hex
  obtain ⟨e', h1, h2, h3⟩ := key (ord l) ⟨e, hb, he⟩
  rw [lowZ_is h3 h2 (by omega)]; exact ⟨h1, h2⟩
theorem in_shift {l : List Int} (hg : isGrp l = true) {a u x : Nat} (hu : lowZ u < ord l) (hx : x ∈ elems a) : (shiftF l a (dF l u x)).testBit (lowZ u) = true := by
  rw [testBit_shiftF]
  exact ⟨x, (mem_elems.1 hx).1, (mem_elems.1 hx).2, dF_add hg hu⟩
theorem tlS_nodup {l : List Int} (hg : isGrp l = true) {a : Nat} (ha : a < 2 ^ ord l) : ∀ f u b m, u < 2 ^ ord l → (∀ d, b.testBit d = true → Sub (shiftF l a d) u) →
    (tlS l a f u b m).Nodup ∧ ∀ y ∈ tlS l a f u b m, Lead l a u b y := by
  intro f
  induction f with
  | zero => intro u b m _ _; simp [tlS]
  | succ f ih =>
    intro u b m hu hI
    have hob := ord_bd hg
    by_cases hfull : u = fullN l
    · rw [tlS_full hfull]
      refine ⟨by simp, fun y hy => ?_⟩
      rw [List.mem_singleton] at hy
      subst hy
      exact fun d => ⟨id, Or.inl⟩
    · obtain ⟨hl1, hl2⟩ := low_free hu hob.2 hfull
      have hbit : ∀ x ∈ elems a, x < ord l := fun x hx => Classical.byContradiction fun hn => by
        have := testBit_ge ha (Nat.le_of_not_lt hn); rw [(mem_elems.1 hx).2] at this; cases this
      unfold tlS
      rw [if_neg hfull]
      have key := tlS_fold (c := fun x => shiftF l a (dF l u x) &&& u = 0) (G := fun x k => tlS l a f (u ||| shiftF l a (dF l u x)) (b ||| 2 ^ dF l u x) k) (Q := fun x y => Lead l a (u ||| shiftF l a (dF l u x)) (b ||| 2 ^ dF l u x) y) (E := elems a) (m := m)
        (fun x k hx hc => ih _ _ k (Nat.or_lt_two_pow hu (shiftF_lt (isGrp_ords hg) a _)) fun d hd => by
          rw [Nat.testBit_or, Bool.or_eq_true, Nat.testBit_two_pow] at hd
          rcases hd with hd | hd
          · exact (hI d hd).trans (Sub.or_left _ _)
          · have : dF l u x = d := by simpa using hd
            subst this; exact Sub.or_right _ _)
        (fun x hx x' hx' y hc hc' hq hq' => by
          have hD : y.testBit (dF l u x') = true := (hq' _).1 (by rw [Nat.testBit_or, Nat.testBit_two_pow]; simp)
          have hs' := in_shift hg hl1 hx'
          have hs := in_shift hg hl1 hx
          rcases (hq _).2 hD with h1 | h1
          · rw [Nat.testBit_or, Bool.or_eq_true, Nat.testBit_two_pow] at h1
            rcases h1 with h1 | h1
            · have := hI _ h1 _ hs'
              rw [hl2] at this; cases this
            · have e : dF l u x = dF l u x' := by simpa using h1
              have e1 := dF_add hg (x := x) hl1
              have e2 := dF_add hg (x := x') hl1
              rw [e] at e1
              exact addF_cancel (isGrp_ords hg) (hbit x hx) (hbit x' hx') (e1.trans e2.symm)
          · have := and_zero_bit h1 hs'
            rw [Nat.testBit_or, hs] at this; simp at this)
        (elems a) [] [] (by simpa using elems_nodup a) (by simp) (by simp) (by simp)
      refine ⟨key.1, fun y hy => ?_⟩
      obtain ⟨x, -, hc, hq⟩ := key.2 y hy
      exact hq.back hc
theorem tileL_nodup {l : List Int} (hg : isGrp l = true) {a : Nat} (ha : a < 2 ^ ord l) (m : Nat) : (tileL l a m).Nodup :=
  (tlS_nodup hg ha _ _ _ _ ha fun d hd => by
    have : d = 0 := by
      rw [show (1 : Nat) = 2 ^ 0 from rfl, Nat.testBit_two_pow] at hd
      have : 0 = d := by simpa using hd
      omega
    subst this
    rw [shiftF_none hg ha]; exact Sub.refl _).1
end Go.Zz

/- TilesOf of the reference: its tiles are put in ascending order. -/
namespace Go.Zz
open Go.RowKit Go.Proofs
set_option maxHeartbeats 2000000
set_option maxRecDepth 8000

theorem castL_put (L : List Nat) (n k : Nat) : (castL L).take k ++ [(n : Int)] ++ (castL L).drop k = castL (putAt L n k) := by
  unfold putAt castL; simp [List.map_take, List.map_drop]
theorem l5Put_any (u : Value) (L : List Nat) (n : Nat) (w : World) (h : Ints w u (castL L)) (hL : L.length ≤ 100000) :
    Calls Try.prog 204 #[u, .int .i64 n] w fun e w' => ∃ v', e = .returned v' ∧ Ints w' v' (castL (putN L n)) ∧ Ext w w' := by
  have HI := Lib.hid (fun W (hW : Ext w W) => h.ext hW)
  obtain ⟨ao, c, adrL, rfl, hadrL, hcellL⟩ := h.nats
  have hixL := ints_index (c := c) elI szI hadrL
  have hE := Ext.refl w
  have hcap : L.length ≤ c := by
    obtain ⟨_, _, hv, hc, _⟩ := h
    rw [castL_len] at hv hc
    simp only [Value.slice.injEq] at hv
    omega
  have HI : Hid (∀ W, Ext w W → Ints W (.slice ao L.length c) (castL L)) := HI
  clear h hadrL
  go_enter Try.func204, Try.ntmps204
  go_wp2_with fail
  go_loop [5] (fun sk => ∃ k : Nat, k ≤ L.length ∧ sk = .int .i64 k ∧ Hid (pkN L n L.length = pkN L n k)) (fun sk => (intOf sk).toNat)
  case atStart => exact ⟨L.length, Nat.le_refl _, rfl, Lib.hid rfl⟩
  case round =>
    obtain ⟨k, hk, rfl, HP⟩ := hrel
    have hc4 : k = 0 ∨ (∃ j, k = j + 1 ∧ n < nthN L j) ∨ (∃ j, k = j + 1 ∧ nthN L j = n) ∨ (∃ j, k = j + 1 ∧ nthN L j < n) := by
      by_cases hk0 : k = 0
      · exact Or.inl hk0
      · obtain ⟨j, rfl⟩ : ∃ j, k = j + 1 := ⟨k - 1, by omega⟩
        rcases Nat.lt_trichotomy n (nthN L j) with h | h | h
        · exact Or.inr (Or.inl ⟨j, rfl, h⟩)
        · exact Or.inr (Or.inr (Or.inl ⟨j, rfl, h.symm⟩))
        · exact Or.inr (Or.inr (Or.inr ⟨j, rfl, h⟩))
    have Hcell := Lib.hid hcellL
    clear hcellL
    rcases hc4 with hk0 | ⟨j, rfl, hlt⟩ | ⟨j, rfl, he⟩ | ⟨j, hkj, hlt⟩
    · have Hp : Hid (putN L n = putAt L n k) := Lib.hid (by rw [hk0] at HP ⊢; exact putN_zero HP.out)
      have hkz : ¬ (0 : Int) < (k : Int) := by omega
      clear hk0
      have hsl := fun W => run_cut (P := Try.prog) elI szI ao L.length c (k : Int) (by omega) (by omega) W
      have hsa := fun W => run_cutAt (P := Try.prog) elI szI ao L.length c (k : Int) (by omega) (by omega) W
      have hfl := fun W => run_cutFrom (P := Try.prog) elI szI ao L.length c (k : Int) (by omega) (by omega) W
      have hfa := fun W => run_cutFromAt (P := Try.prog) elI szI ao L.length c (k : Int) (by omega) (by omega) W
      rw [show ((k : Int)).toNat = k by omega] at hsl hsa hfl hfa
      have hcl : (castL L).length = L.length := castL_len L
      have Hpq : Hid (castL (putN L n) = (castL L).take k ++ [(n : Int)] ++ (castL L).drop k) := Lib.hid (by rw [Hp.out, castL_put])
      have HA := Lib.hid (fun W (hW : Ext w W) => (HI.out W hW).take (k := k) (by omega))
      have HB := Lib.hid (fun W (hW : Ext w W) => (HI.out W hW).drop (k := k) (by omega))
      have hln1 : ((castL L).take k).length + [(n : Int)].length ≤ 17592186044416 := by rw [List.length_take, List.length_singleton]; omega
      have hln2 : ((castL L).take k ++ [(n : Int)]).length + ((castL L).drop k).length ≤ 17592186044416 := by rw [List.length_append, List.length_take, List.length_singleton, List.length_drop]; omega
      obtain ⟨A, hA⟩ : ∃ A, A = (castL L).take k := ⟨_, rfl⟩
      obtain ⟨B, hB⟩ : ∃ B, B = (castL L).drop k := ⟨_, rfl⟩
      rw [← hA] at HA hln1 hln2 Hpq
      rw [← hB] at HB hln2 Hpq
      clear hA hB hcl
      go_wp2_with fail
      first | (go_region_held3 (fun W => Ext w W) (exact (by repeat (first | assumption | exact Ext.refl _ | (apply And.left; assumption) | apply Ext.drew | apply Ext.alloc))) (first | ((refine step_appendsE slI rfl _ _ rfl w w ?_ ?_ (A ++ [(n : Int)]) (B) ?_ ?_ ?_ hln2 ?_ ?_ ?_); (rotate_left 2); (focus (first | (with_reducible assumption) | ((refine OwnE.ext (w := ?_) ?_ ?_); (rotate_left 1); (focus (with_reducible assumption)); repeat (first | assumption | exact Ext.refl _ | (apply And.left; assumption) | apply Ext.drew | apply Ext.alloc)))); (rotate_left 2); rfl; rfl; (rotate_left 1); (focus (exact HB.out _ (by repeat (first | assumption | exact Ext.refl _ | (apply And.left; assumption) | apply Ext.drew | apply Ext.alloc)))); (focus (repeat (first | assumption | exact Ext.refl _ | (apply And.left; assumption) | apply Ext.drew | apply Ext.alloc))); (intro vF wF hOF hXF hTF)) | ((refine step_appendsE slI rfl _ _ rfl w w ?_ ?_ (A) ([(n : Int)]) ?_ ?_ ?_ hln1 ?_ ?_ ?_); (rotate_left 2); (focus (first | (with_reducible assumption) | ((refine OwnE.ext (w := ?_) ?_ ?_); (rotate_left 1); (focus (with_reducible assumption)); repeat (first | assumption | exact Ext.refl _ | (apply And.left; assumption) | apply Ext.drew | apply Ext.alloc)))); (rotate_left 2); rfl; rfl; (rotate_left 1); (focus (refine Blk.ints1 (T := 3) ?_; (repeat (first | (with_reducible assumption) | (with_reducible exact Blk.new _ _ _) | ((with_reducible refine Blk.new' ?_); simp [go_sem]; done) | (with_reducible apply Blk.alloc) | (with_reducible apply Blk.drew) | (with_reducible refine Blk.ext ?_ hEC))))); (focus (repeat (first | assumption | exact Ext.refl _ | (apply And.left; assumption) | apply Ext.drew | apply Ext.alloc))); (intro vD wD hOD hXD hTD)) | ((refine step_copy2 slI rfl _ _ rfl ?_ ?_ (A) ?_ ?_ ?_ ?_ w ?_ ?_ ?_); (rotate_left 2); rfl; rfl; (focus (repeat (first | (with_reducible assumption) | (with_reducible exact Blk.new _ _ _) | ((with_reducible refine Blk.new' ?_); simp [go_sem]; done) | (with_reducible apply Blk.alloc) | (with_reducible apply Blk.drew)))); (exact HA.out _ (by repeat (first | assumption | exact Ext.refl _ | (apply And.left; assumption) | apply Ext.drew | apply Ext.alloc))); (focus (first | exact Nat.le_refl _ | omega | (simp; omega))); (focus (repeat (first | assumption | exact Ext.refl _ | (apply And.left; assumption) | apply Ext.drew | apply Ext.alloc))); (intro aoC cC wC hOC hZC hEC; have hXC := Ext.trans (a := w) (by repeat (first | assumption | exact Ext.refl _ | (apply And.left; assumption) | apply Ext.drew | apply Ext.alloc)) hEC; have hOEC : OwnE 3 w w wC _ _ := Or.inr hOC)))) | (fail "the region")
      all_goals
        obtain ⟨aoN, cN, rfl, hON, hEN⟩ := MiP.of hOF hXF
        go_wp2_with fail
        go_ret
        exact ⟨_, rfl, by rw [Hpq.out]; exact hON.ints, hEN⟩
    · have hlj : j < L.length := by omega
      have hck := Hcell.out j w hlj hE
      obtain ⟨Y, hY⟩ : ∃ Y, Y = nthN L j := ⟨_, rfl⟩
      rw [← hY] at hck hlt
      have hixj := hixL j
      have hw1 : IntKind.i64.wrap (((j + 1 : Nat) : Int) - 1) = (j : Int) := by rw [show (((j + 1 : Nat) : Int) - 1) = (j : Int) by omega]; exact IntWalk.i64_in _ (by omega)
      have hw2 : (((j + 1 : Nat) : Int) - 1) = (j : Int) := by omega
      have hkz : (0 : Int) < ((j + 1 : Nat) : Int) := by omega
      have Hn : Hid (pkN L n L.length = pkN L n j) := Lib.hid (by rw [HP.out, pkN_down (by rw [← hY]; exact hlt)])
      have hq : (n : Int) < (Y : Int) := by omega
      clear hY
      go_wp2_with fail
      go_round
      case rel => exact ⟨j, by omega, by go_num, Hn⟩
      case measure => (first | (simp [intOf]; done) | (simp [intOf]; omega))
    · have hlj : j < L.length := by omega
      have hck := Hcell.out j w hlj hE
      have Hs : Hid (pkN L n L.length = j + 1) := Lib.hid (by rw [HP.out, pkN_stop (by omega)])
      have Hp : Hid (putN L n = L) := Lib.hid (putN_old Hs.out he)
      have hw2 : (((j + 1 : Nat) : Int) - 1) = (j : Int) := by omega
      have hkz : (0 : Int) < ((j + 1 : Nat) : Int) := by omega
      rw [he] at hck
      have hq : ¬ (n : Int) < (n : Int) := by omega
      clear he
      go_wp2_with fail
      go_ret
      exact ⟨_, rfl, by rw [Hp.out]; exact HI.out _ hE, hE⟩
    · have hlj : j < L.length := by omega
      have hck := Hcell.out j w hlj hE
      have Hs : Hid (pkN L n L.length = j + 1) := Lib.hid (by rw [HP.out, hkj, pkN_stop (by omega)])
      have Hp : Hid (putN L n = putAt L n k) := Lib.hid (by rw [hkj]; exact putN_new Hs.out (by omega))
      obtain ⟨Y, hY⟩ : ∃ Y, Y = nthN L j := ⟨_, rfl⟩
      rw [← hY] at hck hlt
      have hw2 : ((k : Int) - 1) = (j : Int) := by omega
      have hkz : (0 : Int) < (k : Int) := by omega
      have hq : ¬ (n : Int) < (Y : Int) := by omega
      have hq2 : ((Y : Int) == (n : Int)) = false := by rw [beq_eq_false_iff_ne]; omega
      have hixj := hixL j
      have Hs' := Hs
      clear hY hkj Hs Hs'
      have hsl := fun W => run_cut (P := Try.prog) elI szI ao L.length c (k : Int) (by omega) (by omega) W
      have hsa := fun W => run_cutAt (P := Try.prog) elI szI ao L.length c (k : Int) (by omega) (by omega) W
      have hfl := fun W => run_cutFrom (P := Try.prog) elI szI ao L.length c (k : Int) (by omega) (by omega) W
      have hfa := fun W => run_cutFromAt (P := Try.prog) elI szI ao L.length c (k : Int) (by omega) (by omega) W
      rw [show ((k : Int)).toNat = k by omega] at hsl hsa hfl hfa
      have hcl : (castL L).length = L.length := castL_len L
      have Hpq : Hid (castL (putN L n) = (castL L).take k ++ [(n : Int)] ++ (castL L).drop k) := Lib.hid (by rw [Hp.out, castL_put])
      have HA := Lib.hid (fun W (hW : Ext w W) => (HI.out W hW).take (k := k) (by omega))
      have HB := Lib.hid (fun W (hW : Ext w W) => (HI.out W hW).drop (k := k) (by omega))
      have hln1 : ((castL L).take k).length + [(n : Int)].length ≤ 17592186044416 := by rw [List.length_take, List.length_singleton]; omega
      have hln2 : ((castL L).take k ++ [(n : Int)]).length + ((castL L).drop k).length ≤ 17592186044416 := by rw [List.length_append, List.length_take, List.length_singleton, List.length_drop]; omega
      obtain ⟨A, hA⟩ : ∃ A, A = (castL L).take k := ⟨_, rfl⟩
      obtain ⟨B, hB⟩ : ∃ B, B = (castL L).drop k := ⟨_, rfl⟩
      rw [← hA] at HA hln1 hln2 Hpq
      rw [← hB] at HB hln2 Hpq
      clear hA hB hcl
      go_wp2_with fail
      first | (go_region_held3 (fun W => Ext w W) (exact (by repeat (first | assumption | exact Ext.refl _ | (apply And.left; assumption) | apply Ext.drew | apply Ext.alloc))) (first | ((refine step_appendsE slI rfl _ _ rfl w w ?_ ?_ (A ++ [(n : Int)]) (B) ?_ ?_ ?_ hln2 ?_ ?_ ?_); (rotate_left 2); (focus (first | (with_reducible assumption) | ((refine OwnE.ext (w := ?_) ?_ ?_); (rotate_left 1); (focus (with_reducible assumption)); repeat (first | assumption | exact Ext.refl _ | (apply And.left; assumption) | apply Ext.drew | apply Ext.alloc)))); (rotate_left 2); rfl; rfl; (rotate_left 1); (focus (exact HB.out _ (by repeat (first | assumption | exact Ext.refl _ | (apply And.left; assumption) | apply Ext.drew | apply Ext.alloc)))); (focus (repeat (first | assumption | exact Ext.refl _ | (apply And.left; assumption) | apply Ext.drew | apply Ext.alloc))); (intro vF wF hOF hXF hTF)) | ((refine step_appendsE slI rfl _ _ rfl w w ?_ ?_ (A) ([(n : Int)]) ?_ ?_ ?_ hln1 ?_ ?_ ?_); (rotate_left 2); (focus (first | (with_reducible assumption) | ((refine OwnE.ext (w := ?_) ?_ ?_); (rotate_left 1); (focus (with_reducible assumption)); repeat (first | assumption | exact Ext.refl _ | (apply And.left; assumption) | apply Ext.drew | apply Ext.alloc)))); (rotate_left 2); rfl; rfl; (rotate_left 1); (focus (refine Blk.ints1 (T := 3) ?_; (repeat (first | (with_reducible assumption) | (with_reducible exact Blk.new _ _ _) | ((with_reducible refine Blk.new' ?_); simp [go_sem]; done) | (with_reducible apply Blk.alloc) | (with_reducible apply Blk.drew) | (with_reducible refine Blk.ext ?_ hEC))))); (focus (repeat (first | assumption | exact Ext.refl _ | (apply And.left; assumption) | apply Ext.drew | apply Ext.alloc))); (intro vD wD hOD hXD hTD)) | ((refine step_copy2 slI rfl _ _ rfl ?_ ?_ (A) ?_ ?_ ?_ ?_ w ?_ ?_ ?_); (rotate_left 2); rfl; rfl; (focus (repeat (first | (with_reducible assumption) | (with_reducible exact Blk.new _ _ _) | ((with_reducible refine Blk.new' ?_); simp [go_sem]; done) | (with_reducible apply Blk.alloc) | (with_reducible apply Blk.drew)))); (exact HA.out _ (by repeat (first | assumption | exact Ext.refl _ | (apply And.left; assumption) | apply Ext.drew | apply Ext.alloc))); (focus (first | exact Nat.le_refl _ | omega | (simp; omega))); (focus (repeat (first | assumption | exact Ext.refl _ | (apply And.left; assumption) | apply Ext.drew | apply Ext.alloc))); (intro aoC cC wC hOC hZC hEC; have hXC := Ext.trans (a := w) (by repeat (first | assumption | exact Ext.refl _ | (apply And.left; assumption) | apply Ext.drew | apply Ext.alloc)) hEC; have hOEC : OwnE 3 w w wC _ _ := Or.inr hOC)))) | (fail "the region")
      all_goals
        obtain ⟨aoN, cN, rfl, hON, hEN⟩ := MiP.of hOF hXF
        go_wp2_with fail
        go_ret
        exact ⟨_, rfl, by rw [Hpq.out]; exact hON.ints, hEN⟩
theorem Ints.shapeN {w : World} {v : Value} {L : List Nat} (h : Ints w v (castL L)) : ∃ ao c, v = .slice ao L.length c := by
  obtain ⟨ao, c, rfl, -⟩ := h
  exact ⟨ao, c, by rw [castL_len]⟩
/-- the number of tiles, at most 200 -/
def tlN (l : List Int) (a : Int) : Nat := if isOneB l a then (tileL l a.toNat 200).length else 0
theorem tlN_no {l : List Int} {a : Int} (h : isOneB l a = false) : tlN l a = 0 := by unfold tlN; rw [h]; rfl
theorem tlN_yes {l : List Int} {n : Nat} (h : isOneB l n = true) : tlN l n = (tileL l n 200).length := by unfold tlN; rw [if_pos h]; rfl
theorem sTilesOf_any (v : Value) (l : List Int) (a : Int) (w : World) (h : Ints w v l) :
    Calls Try.prog 121 #[.agg #[v], .int .i64 a] w fun e w' => ∃ v' L, e = .returned (.tuple #[v', .bool (isOneB l a)]) ∧ Ints w' v' L ∧ L.length = tlN l a ∧ Ext w w' := by
  obtain ⟨wb, hwb⟩ : ∃ wb, wb = w.alloc (.cells #[v] 31) := ⟨_, rfl⟩
  have hE0 := (Ext.refl w).alloc (.cells #[v] 31)
  have hb := box_cell w v 31
  rw [← hwb] at hE0 hb
  have hg : ∀ W, Ext wb W → Ints W v l := fun W hW => h.ext (hE0.trans hW)
  have hE := Ext.refl wb
  have Hsz : Hid (w.heap.size + 1 = wb.heap.size) := Lib.hid (by rw [hwb]; simp [go_sem])
  have Hwb := Lib.hid hwb
  clear hwb h
  have hbx := hb wb hE
  cases hs : isSetB l a
  · have Ho := Lib.hid (isOneB_no hs)
    go_enter Try.func121, Try.ntmps121
    go_wp2_with fail
    rw [← Hwb.out]
    refine (sIsSet_val _ _ _ _ (hg _ hE) hs).mono ?_
    rintro e w1 ⟨rfl, hE1⟩
    go_wp2_with fail
    rw [Ho.out]
    exact bodyPost_ret (v := .tuple #[.slice (some ⟨w1.heap.size, 0, none⟩) 0 0, .bool false]) (by simp [results, Try.results121, go_sem]) rfl ⟨_, [], rfl, (own_made (TI := 3) (n := 0) (by omega) (hE0.trans hE1) [] rfl).ints, (tlN_no Ho.out).symm, Ext.alloc (hE0.trans hE1) _⟩
  · obtain ⟨n, rfl, hn, hn24, hgr⟩ := isSetB_nat hs
    by_cases h0 : n = 0
    · subst h0
      have Ho : Hid (isOneB l ((0 : Nat) : Int) = false) := Lib.hid (isOneB_zero l)
      go_enter Try.func121, Try.ntmps121
      go_wp2_with fail
      rw [← Hwb.out]
      refine (sIsSet_val _ _ _ _ (hg _ hE) hs).mono ?_
      rintro e w1 ⟨rfl, hE1⟩
      go_wp2_with fail
      rw [show (0 : Int) = ((0 : Nat) : Int) from rfl, Ho.out]
      exact bodyPost_ret (v := .tuple #[.slice (some ⟨w1.heap.size, 0, none⟩) 0 0, .bool false]) (by simp [results, Try.results121, go_sem]) rfl ⟨_, [], rfl, (own_made (TI := 3) (n := 0) (by omega) (hE0.trans hE1) [] rfl).ints, (tlN_no Ho.out).symm, Ext.alloc (hE0.trans hE1) _⟩
    · have h00 : ((n : Int) == 0) = false := by rw [beq_eq_false_iff_ne]; omega
      have Hgr := Lib.hid hgr
      have Ho := Lib.hid (isOneB_yes hs (by omega))
      have hca : 1 ≤ cnt n := cnt_pos (by omega) hn24
      have hob := ord_bd hgr
      have hcT : ∀ W, Ext wb W → Calls Try.prog 203 #[.agg #[v], .int .i64 n, .int .i64 (fullN l : Nat), .int .i64 n, .int .i64 1, .int .i64 200] W fun e w' => ∃ v', e = .returned v' ∧ Own 3 W w' v' (castL (tileL l n 200)) ∧ Ext W w' := fun W hW =>
        sSearch_any v l n Hgr h0 hn (ord l + 1) n 1 200 W (hg W hW) (by omega) hn (by decide) (by omega) (by omega)
      have hlenT : (tileL l n 200).length ≤ 200 := tlS_len _ _ _ _ _ _ (by omega)
      have HN : Hid ((putTo (tileL l n 200) (tileL l n 200).length).length = tlN l n) := Lib.hid (by rw [tlN_yes Ho.out]; exact (putTo_nodup (tileL_nodup hgr hn 200) _ (Nat.le_refl _)).1)
      have hs1 := ishl_one (n := ord l) (by omega)
      have hpw := pw_le (n := ord l) hob.2
      have hpw1 := pw_pos (ord l)
      have hwr : IntKind.i64.wrap (((pw (ord l) : Nat) : Int) - 1) = ((fullN l : Nat) : Int) := by
        rw [show (((pw (ord l) : Nat) : Int) - 1) = ((fullN l : Nat) : Int) by unfold fullN; omega]
        apply IntWalk.i64_in; unfold fullN; omega
      obtain ⟨T, hT⟩ : ∃ T, T = tileL l n 200 := ⟨_, rfl⟩
      rw [← hT] at hcT hlenT HN
      clear hgr h0 hca hT
      go_enter Try.func121, Try.ntmps121
      go_wp2_with fail
      rw [← Hwb.out]
      refine (sIsSet_val _ _ _ _ (hg _ hE) hs).mono ?_
      rintro e w1 ⟨rfl, hE1⟩
      have hb' := fun W (hW : Ext w1 W) => hb W (hE1.trans hW)
      go_wp2_with fail
      have hD := (Ext.refl (w1)).drew
      first | (go_region_held3 (fun W => Ext (w1) W ∧ W.cell? ⟨w.heap.size, 0, none⟩ = some v) (exact ⟨(by repeat (first | assumption | exact Ext.refl _ | (apply And.left; assumption) | apply Ext.drew | apply Ext.alloc)), hb' _ (by repeat (first | assumption | exact Ext.refl _ | (apply And.left; assumption) | apply Ext.drew | apply Ext.alloc))⟩) (first | (go_at_call 106; ((with_reducible refine Calls.mono (l2Order_any _ _ _ (hg _ (hE1.trans (by repeat (first | assumption | exact Ext.refl _ | (apply And.left; assumption) | apply Ext.drew | apply Ext.alloc)))) Hgr) ?_); rintro e wH0 ⟨rfl, hX0⟩; have hH0 := Ext.trans (a := w1) (by repeat (first | assumption | exact Ext.refl _ | (apply And.left; assumption) | apply Ext.drew | apply Ext.alloc)) hX0)) | (go_at_call 203; ((with_reducible refine Calls.mono (hcT _ (hE1.trans (by repeat (first | assumption | exact Ext.refl _ | (apply And.left; assumption) | apply Ext.drew | apply Ext.alloc)))) ?_); rintro e wH1 ⟨vT, rfl, hO, hX1⟩; have hH1 := Ext.trans (a := w1) (by repeat (first | assumption | exact Ext.refl _ | (apply And.left; assumption) | apply Ext.drew | apply Ext.alloc)) hX1)))) | (fail "the region with calls")
      obtain ⟨w2, h12⟩ : ∃ w2, Ext w1 w2 ∧ w2 = wH1 := ⟨_, by repeat (first | assumption | exact Ext.refl _ | (apply And.left; assumption) | apply Ext.drew | apply Ext.alloc), rfl⟩
      obtain ⟨h12, rfl⟩ := h12
      obtain ⟨aoT, cT, adrT, rfl, hadrT, hcellT⟩ := hO.ints.nats
      have hixT := ints_index (c := cT) elI szI hadrT
      have HcT := Lib.hid hcellT
      have hE02 := hE0.trans (hE1.trans h12)
      clear hcellT hadrT hO hcT hX0 hX1 hb' hs
      go_wp2_with fail
      go_loopw [6, 8] (fun so si wr => ∃ (k : Nat) (ao : Option Addr) (c : Nat), k ≤ T.length ∧ si = .int .i64 k ∧ so = .slice ao (putTo T k).length c ∧ Ints wr (.slice ao (putTo T k).length c) (castL (putTo T k)) ∧ Ext w2 wr) (fun _ si _ => T.length - (intOf si).toNat)
      case atStart => exact ⟨0, _, 0, by omega, rfl, rfl, ⟨_, 0, rfl, by simp [putTo, castL], by simp [putTo, castL], fun i hi => absurd hi (by simp [putTo, castL])⟩, Ext.refl _⟩
      case round =>
        obtain ⟨k, ao, c, hk, rfl, rfl, hI, hE2⟩ := hrel
        have hPl := putTo_len T k
        by_cases hlt : k < T.length
        · obtain ⟨P, hP⟩ : ∃ P, P = putTo T k := ⟨_, rfl⟩
          have Hn : Hid (putTo T (k + 1) = putN P (nthN T k)) := Lib.hid (by rw [hP]; rfl)
          have hck := HcT.out k wr hlt hE2
          rw [← hP] at hI hPl
          rw [← hP]
          obtain ⟨Y, hY⟩ : ∃ Y, Y = nthN T k := ⟨_, rfl⟩
          rw [← hY] at hck Hn
          have hcP := l5Put_any _ P Y wr hI (by omega)
          clear hP hY
          go_wp2_with (go_at_call 204; refine hcP.mono ?_; rintro e w3 ⟨v3, rfl, hI3, hE3⟩; obtain ⟨a3, c3, rfl⟩ := hI3.shapeN; rw [← Hn.out] at hI3 ⊢)
          go_roundw
          case rel => exact ⟨k + 1, a3, c3, by omega, by go_num, rfl, hI3, hE2.trans hE3⟩
          case measure => (simp [intOf]; omega)
        · have hkl : k = T.length := by omega
          subst hkl
          go_wp2_with fail
          rw [Ho.out]
          exact bodyPost_ret (v := .tuple #[.slice ao (putTo T T.length).length c, .bool true]) (by simp [results, Try.results121, go_sem]) rfl ⟨_, _, rfl, hI, by rw [castL_len, HN.out], hE02.trans hE2⟩
end Go.Zz
