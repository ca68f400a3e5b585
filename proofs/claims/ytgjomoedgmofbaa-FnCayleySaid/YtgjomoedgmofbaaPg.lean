/- Plain laws of searches: a without b, greedy covers, first best values. -/
import Derived.Test.YtgjomoedgmofbaaC14
namespace Go.Zz
open Go.RowKit Go.Proofs
set_option maxHeartbeats 400000

/-- a without b -/
def andN (a b : Nat) : Nat := a ^^^ (a &&& b)
theorem andN_bit (a b i : Nat) : (andN a b).testBit i = (a.testBit i && !b.testBit i) := by
  unfold andN; rw [Nat.testBit_xor, Nat.testBit_and]; cases a.testBit i <;> cases b.testBit i <;> rfl
theorem andN_lt {a b n : Nat} (h : a < 2 ^ n) : andN a b < 2 ^ n := Nat.xor_lt_two_pow h (Nat.lt_of_le_of_lt Nat.and_le_left h)
theorem andN_sub : ∀ (n a b : Nat), a < 2 ^ n → andN a b + (a &&& b) = a
  | 0, a, b, h => by
    obtain rfl : a = 0 := by simp at h; omega
    simp [andN]
  | n + 1, a, b, h => by
    have hp : 2 ^ (n + 1) = 2 ^ n * 2 := Nat.pow_succ 2 n
    have ih := andN_sub n (a / 2) (b / 2) (by omega)
    have d1 : andN a b / 2 = andN (a / 2) (b / 2) := by
      apply Nat.eq_of_testBit_eq; intro i
      rw [← Nat.testBit_succ, andN_bit, andN_bit, Nat.testBit_succ, Nat.testBit_succ]
    have d2 : (a &&& b) / 2 = (a / 2) &&& (b / 2) := by
      apply Nat.eq_of_testBit_eq; intro i
      rw [← Nat.testBit_succ, Nat.testBit_and, Nat.testBit_and, Nat.testBit_succ, Nat.testBit_succ]
    have m1 : (andN a b).testBit 0 = (a.testBit 0 && !b.testBit 0) := andN_bit a b 0
    have m2 : (a &&& b).testBit 0 = (a.testBit 0 && b.testBit 0) := Nat.testBit_and a b 0
    rw [Nat.testBit_zero, Nat.testBit_zero, Nat.testBit_zero] at m1 m2
    have e1 : andN a b % 2 + (a &&& b) % 2 = a % 2 := by
      rw [Bool.eq_iff_iff] at m1 m2
      simp only [decide_eq_true_eq, Bool.and_eq_true, Bool.not_eq_true', decide_eq_false_iff_not] at m1 m2
      omega
    omega
theorem andN_zero {a b : Nat} : andN a b = 0 ↔ ∀ i, a.testBit i = true → b.testBit i = true := by
  constructor
  · intro h i hi
    have := andN_bit a b i
    rw [h, Nat.zero_testBit, hi] at this
    simpa using this.symm
  · intro h
    apply Nat.eq_of_testBit_eq; intro i
    rw [andN_bit, Nat.zero_testBit]
    cases e : a.testBit i
    · rfl
    · rw [h i e]; rfl
theorem iandn_nat {a b : Nat} (ha : a < 2 ^ 63) (hb : b < 2 ^ 63) : iandn a b = ((andN a b : Nat) : Int) := by
  show IntKind.i64.wrap ((BitVec.ofInt IntKind.i64.bits (a : Int) &&& ~~~ BitVec.ofInt IntKind.i64.bits (b : Int)).toNat : Int) = _
  have e : (BitVec.ofInt IntKind.i64.bits (a : Int) &&& ~~~ BitVec.ofInt IntKind.i64.bits (b : Int)) = (BitVec.ofInt IntKind.i64.bits (a : Int) ^^^ (BitVec.ofInt IntKind.i64.bits (a : Int) &&& BitVec.ofInt IntKind.i64.bits (b : Int))) := by
    ext i hi; simp only [BitVec.getElem_and, BitVec.getElem_xor, BitVec.getElem_not]
    cases (BitVec.ofInt IntKind.i64.bits (a : Int))[i] <;> cases (BitVec.ofInt IntKind.i64.bits (b : Int))[i] <;> rfl
  rw [e, BitVec.toNat_xor, BitVec.toNat_and, bv_nat ha, bv_nat hb]
  exact wrap_nat (andN_lt ha)

/-- the first greatest value of f below k, from 0 on: the place and the value -/
def bm (f : Nat → Nat) : Nat → Nat × Nat
  | 0 => (0, 0)
  | k + 1 => if (bm f k).2 < f k then (k, f k) else bm f k
theorem bm_zero (f : Nat → Nat) : bm f 0 = (0, 0) := rfl
theorem bm_yes {f : Nat → Nat} {k : Nat} (h : (bm f k).2 < f k) : bm f (k + 1) = (k, f k) := by rw [bm, if_pos h]
theorem bm_no {f : Nat → Nat} {k : Nat} (h : ¬ (bm f k).2 < f k) : bm f (k + 1) = bm f k := by rw [bm, if_neg h]
theorem bm_one (f : Nat → Nat) : bm f 1 = (0, f 0) := by
  by_cases h : (bm f 0).2 < f 0
  · exact bm_yes h
  · rw [bm_no h]
    have : f 0 = 0 := by simp [bm] at h; exact h
    rw [this]; rfl
theorem bm_max (f : Nat → Nat) : ∀ k j, j < k → f j ≤ (bm f k).2
  | k + 1, j, h => by
    by_cases e : (bm f k).2 < f k
    · rw [bm_yes e]
      by_cases hj : j = k
      · subst hj; exact Nat.le_refl _
      · have := bm_max f k j (by omega); show f j ≤ f k; omega
    · rw [bm_no e]
      by_cases hj : j = k
      · subst hj; omega
      · exact bm_max f k j (by omega)
theorem bm_val (f : Nat → Nat) : ∀ k, (bm f k).2 = 0 ∨ (bm f k).2 = f (bm f k).1
  | 0 => Or.inl rfl
  | k + 1 => by
    by_cases e : (bm f k).2 < f k
    · rw [bm_yes e]; exact Or.inr rfl
    · rw [bm_no e]; exact bm_val f k
theorem bm_at (f : Nat → Nat) : ∀ k, (bm f k).1 ≤ k - 1
  | 0 => Nat.le_refl 0
  | k + 1 => by
    by_cases e : (bm f k).2 < f k
    · rw [bm_yes e]; exact Nat.le_refl _
    · rw [bm_no e]; have := bm_at f k; omega

/-- how many of what is left the shift of a by x takes -/
def gain (l : List Int) (a left x : Nat) : Nat := cnt (shiftF l a x &&& left)
def bestAt (l : List Int) (a left : Nat) : Nat := (bm (gain l a left) (ord l)).1
/-- the greedy cover -/
def greedyN (l : List Int) (a : Nat) : Nat → Nat → Nat → Nat
  | 0, out, _ => out
  | n + 1, out, left => if left = 0 then out else greedyN l a n (out ||| 2 ^ bestAt l a left) (andN left (shiftF l a (bestAt l a left)))
theorem greedyN_end (l : List Int) (a n out : Nat) : greedyN l a n out 0 = out := by cases n <;> rfl
theorem greedyN_step {l : List Int} {a n out left : Nat} (h : left ≠ 0) :
    greedyN l a (n + 1) out left = greedyN l a n (out ||| 2 ^ bestAt l a left) (andN left (shiftF l a (bestAt l a left))) := by rw [greedyN, if_neg h]
def fullN (l : List Int) : Nat := pw (ord l) - 1
def greedyF (l : List Int) (a : Int) : Int := if isSetB l a && decide (a ≠ 0) then (greedyN l a.toNat (fullN l) 0 (fullN l) : Int) else 0
def isOneB (l : List Int) (a : Int) : Bool := isSetB l a && decide (a ≠ 0)
theorem isOneB_no {l : List Int} {a : Int} (h : isSetB l a = false) : isOneB l a = false := by unfold isOneB; rw [h]; rfl
theorem isOneB_zero (l : List Int) : isOneB l 0 = false := by unfold isOneB; simp
theorem isOneB_yes {l : List Int} {n : Nat} (h : isSetB l n = true) (h0 : 0 < n) : isOneB l n = true := by unfold isOneB; rw [h]; simp; omega
theorem greedyF_no {l : List Int} {a : Int} (h : isOneB l a = false) : greedyF l a = 0 := by unfold greedyF; unfold isOneB at h; rw [h]; rfl
theorem greedyF_yes {l : List Int} {n : Nat} (h : isOneB l n = true) : greedyF l n = (greedyN l n (fullN l) 0 (fullN l) : Int) := by unfold greedyF; unfold isOneB at h; rw [h]; rfl
theorem fullN_lt (l : List Int) : fullN l < 2 ^ ord l := by unfold fullN; have := pw_pos (ord l); rw [← pw_eq]; omega
theorem fullN_bit (l : List Int) (i : Nat) : (fullN l).testBit i = decide (i < ord l) := by unfold fullN; rw [pw_eq]; exact Nat.testBit_two_pow_sub_one _ _
theorem bestAt_lt {l : List Int} (h : isGrp l = true) (a left : Nat) : bestAt l a left < ord l := by
  unfold bestAt; have := bm_at (gain l a left) (ord l); have := (ord_bd h).1; omega
theorem pos_of_bit {a i : Nat} (h : a.testBit i = true) : a ≠ 0 := by intro e; rw [e, Nat.zero_testBit] at h; cases h
theorem bit_of_pos {a : Nat} (h : a ≠ 0) : ∃ i, a.testBit i = true := by
  refine Classical.byContradiction fun hn => h (Nat.eq_of_testBit_eq fun i => ?_)
  rw [Nat.zero_testBit]
  cases e : a.testBit i
  · rfl
  · exact absurd ⟨i, e⟩ hn
theorem cnt_ne {a : Nat} (h : cnt a ≠ 0) : a ≠ 0 := fun e => h (by rw [e]; exact cnt_zero)
theorem bit_lt {a n i : Nat} (ha : a < 2 ^ n) (h : a.testBit i = true) : i < n := by
  refine Classical.byContradiction fun hn => ?_
  rw [testBit_ge ha (by omega)] at h; cases h
/-- some shift meets what is left -/
theorem meets {l : List Int} (hg : isGrp l = true) {a left : Nat} (ha : a ≠ 0) (ha2 : a < 2 ^ ord l) (hl : left ≠ 0) (hl2 : left < 2 ^ ord l) :
    ∃ x, x < ord l ∧ gain l a left x ≠ 0 := by
  obtain ⟨y, hy⟩ := bit_of_pos ha
  obtain ⟨z, hz⟩ := bit_of_pos hl
  have hy2 := bit_lt ha2 hy
  have hz2 := bit_lt hl2 hz
  have ho := isGrp_ords hg
  have hb := (ord_bd hg).2
  have he : addF l (addF l z (negF l y)) y = z := by
    rw [addF_assoc l ho, addF_comm l (negF l y) y, addF_neg l ho, addF_comm l z 0, addF_zero l ho z hz2]
  refine ⟨addF l z (negF l y), addF_lt l ho _ _, ?_⟩
  have hbit : (shiftF l a (addF l z (negF l y)) &&& left).testBit z = true := by
    rw [Nat.testBit_and, hz, testBit_shiftF.2 ⟨y, by omega, hy, he⟩]; rfl
  have hp := cnt_pos (Nat.pos_of_ne_zero (pos_of_bit hbit)) (Nat.lt_of_le_of_lt Nat.and_le_right (Nat.lt_of_lt_of_le hl2 (pow_ord hg)))
  unfold gain; omega
theorem greedy_less {l : List Int} (hg : isGrp l = true) {a left : Nat} (ha : a ≠ 0) (ha2 : a < 2 ^ ord l) (hl : left ≠ 0) (hl2 : left < 2 ^ ord l) :
    andN left (shiftF l a (bestAt l a left)) < left := by
  obtain ⟨x, hx, hn⟩ := meets hg ha ha2 hl hl2
  have h1 := bm_max (gain l a left) (ord l) x hx
  have h2 : gain l a left (bestAt l a left) ≠ 0 := by
    unfold bestAt
    rcases bm_val (gain l a left) (ord l) with h | h <;> omega
  have h3 : shiftF l a (bestAt l a left) &&& left ≠ 0 := cnt_ne h2
  have h4 := andN_sub (ord l) left (shiftF l a (bestAt l a left)) hl2
  rw [Nat.and_comm] at h3
  omega
/-- what is covered beside what is left -/
theorem left_gain {l : List Int} (hg : isGrp l = true) (a x c : Nat) : andN (shiftF l a x) c = shiftF l a x &&& andN (fullN l) c := by
  apply Nat.eq_of_testBit_eq; intro i
  rw [andN_bit, Nat.testBit_and, andN_bit, fullN_bit]
  cases e : (shiftF l a x).testBit i
  · rfl
  · have := bit_lt (shiftF_lt (isGrp_ords hg) a x) e
    simp [this]
theorem left_next (l : List Int) (s c : Nat) : andN (fullN l) (c ||| s) = andN (andN (fullN l) c) s := by
  apply Nat.eq_of_testBit_eq; intro i
  rw [andN_bit, andN_bit, andN_bit, Nat.testBit_or]
  cases (fullN l).testBit i <;> cases c.testBit i <;> cases s.testBit i <;> rfl
theorem left_zero {l : List Int} {c : Nat} (hc : c < 2 ^ ord l) : andN (fullN l) c = 0 ↔ c = fullN l := by
  rw [andN_zero]
  constructor
  · intro h
    apply Nat.eq_of_testBit_eq; intro i
    cases e : (fullN l).testBit i
    · rw [fullN_bit] at e
      exact testBit_ge hc (by have := of_decide_eq_false e; omega)
    · exact h i e
  · rintro rfl i hi; exact hi
theorem left_start (l : List Int) : andN (fullN l) 0 = fullN l := by
  apply Nat.eq_of_testBit_eq; intro i
  rw [andN_bit, Nat.zero_testBit]; simp
/-- the same search from -1 on -/
def bmI (f : Nat → Nat) (k : Nat) : Nat × Int := if k = 0 then (0, -1) else ((bm f k).1, ((bm f k).2 : Int))
theorem bmI_zero (f : Nat → Nat) : bmI f 0 = (0, -1) := rfl
theorem bmI_pos (f : Nat → Nat) {k : Nat} (h : k ≠ 0) : bmI f k = ((bm f k).1, ((bm f k).2 : Int)) := by unfold bmI; rw [if_neg h]
theorem bmI_yes {f : Nat → Nat} {k : Nat} (h : (bmI f k).2 < (f k : Int)) : bmI f (k + 1) = (k, (f k : Int)) := by
  rw [bmI_pos f (Nat.succ_ne_zero k)]
  by_cases hk : k = 0
  · subst hk; rw [bm_one]
  · rw [bmI_pos f hk] at h
    rw [bm_yes (f := f) (k := k) (by have : ((bm f k).2 : Int) < (f k : Int) := h; omega)]
theorem bmI_no {f : Nat → Nat} {k : Nat} (h : ¬ (bmI f k).2 < (f k : Int)) : bmI f (k + 1) = bmI f k := by
  by_cases hk : k = 0
  · subst hk; rw [bmI_zero] at h; exact absurd (show (-1 : Int) < (f 0 : Int) by omega) h
  · rw [bmI_pos f (Nat.succ_ne_zero k)]
    rw [bmI_pos f hk] at h ⊢
    rw [bm_no (f := f) (k := k) (by intro e; exact h (show ((bm f k).2 : Int) < (f k : Int) by omega))]
theorem bm_le {f : Nat → Nat} {B : Nat} (h : ∀ j, f j ≤ B) : ∀ k, (bm f k).2 ≤ B
  | 0 => Nat.zero_le _
  | k + 1 => by
    by_cases e : (bm f k).2 < f k
    · rw [bm_yes e]; exact h k
    · rw [bm_no e]; exact bm_le h k
theorem bmI_bd {f : Nat → Nat} {B : Nat} (h : ∀ j, f j ≤ B) (k : Nat) : -1 ≤ (bmI f k).2 ∧ (bmI f k).2 ≤ B := by
  by_cases hk : k = 0
  · subst hk; rw [bmI_zero]; constructor <;> simp <;> omega
  · rw [bmI_pos f hk]; have := bm_le h k; constructor <;> simp <;> omega
theorem bmI_at (f : Nat → Nat) (k : Nat) : (bmI f k).1 ≤ k - 1 := by
  by_cases hk : k = 0
  · subst hk; exact Nat.le_refl 0
  · rw [bmI_pos f hk]; exact bm_at f k
theorem gain_le (l : List Int) (a left : Nat) : ∀ j, gain l a left j ≤ 24 := fun _ => cnt_le _
theorem bestAt_I {l : List Int} (h : isGrp l = true) (a left : Nat) : (bmI (gain l a left) (ord l)).1 = bestAt l a left := by
  rw [bmI_pos _ (by have := (ord_bd h).1; omega)]; rfl
end Go.Zz
