/- Direct sums; fewest and most translates. -/
import Derived.Test.YtgkojfjbfmpaaaaGreatGr4
import Derived.Deep.RegionHeld3
import Derived.Deep.RegionWith
import Derived.Test.YtgkojfjbfmpaaaaGreatGr2
import Derived.Deep.RegionLaw
namespace Go.Zz
open Go.RowKit Go.Proofs
set_option maxHeartbeats 400000

/-- whether all sums of two sets are different -/
def directF (l : List Int) (a x : Int) : Bool := isSetB l a && isSetB l x && decide (cnt (sumF l a.toNat x.toNat) = cnt a.toNat * cnt x.toNat)
theorem directF_no {l : List Int} {a x : Int} (h : (isSetB l a && isSetB l x) = false) : directF l a x = false := by unfold directF; rw [h]; rfl
theorem directF_yes {l : List Int} {a x : Nat} (h : (isSetB l a && isSetB l x) = true) : directF l a x = ((cnt (sumF l a x) : Int) == (cnt a : Int) * (cnt x : Int)) := by
  unfold directF; rw [h, Bool.eq_iff_iff]; simp; norm_cast
theorem prod_bd (a x : Nat) : 0 ≤ (cnt a : Int) * (cnt x : Int) ∧ (cnt a : Int) * (cnt x : Int) ≤ 576 := by
  have := Nat.mul_le_mul (cnt_le a) (cnt_le x)
  have e : ((cnt a * cnt x : Nat) : Int) = (cnt a : Int) * (cnt x : Int) := Int.natCast_mul _ _
  omega
theorem prod_wrap (a x : Nat) : IntKind.i64.wrap ((cnt a : Int) * (cnt x : Int)) = (cnt a : Int) * (cnt x : Int) := by
  have := prod_bd a x; exact IntWalk.i64_in _ (by omega)
end Go.Zz

/- Fewest and most translates. -/
namespace Go.Zz
open Go.RowKit Go.Proofs
set_option maxHeartbeats 400000

def trB (l : List Int) (a : Int) : Bool := isOneB l a && decide (ord l ≤ 10)
theorem trB_set {l : List Int} {a : Int} (h : isSetB l a = false) : trB l a = false := by unfold trB; rw [isOneB_no h]; rfl
theorem trB_zero (l : List Int) : trB l 0 = false := by unfold trB; rw [isOneB_zero]; rfl
theorem trB_ord {l : List Int} {a : Int} (h : ¬ ord l ≤ 10) : trB l a = false := by unfold trB; simp [h]
theorem trB_yes {l : List Int} {n : Nat} (h : isSetB l n = true) (h0 : 0 < n) (h2 : ord l ≤ 10) : trB l n = true := by unfold trB; rw [isOneB_yes h h0]; simp [h2]
/-- the first cover of fewest elements below k -/
def fewTo (l : List Int) (a : Int) : Nat → Nat
  | 0 => fullN l
  | k + 1 => if cnt k < cnt (fewTo l a k) ∧ covF l a k = true then k else fewTo l a k
theorem fewTo_yes {l : List Int} {a : Int} {k : Nat} (h : cnt k < cnt (fewTo l a k)) (h2 : covF l a k = true) : fewTo l a (k + 1) = k := by rw [fewTo, if_pos ⟨h, h2⟩]
theorem fewTo_no {l : List Int} {a : Int} {k : Nat} (h : ¬ cnt k < cnt (fewTo l a k)) : fewTo l a (k + 1) = fewTo l a k := by rw [fewTo, if_neg (fun e => h e.1)]
theorem fewTo_no' {l : List Int} {a : Int} {k : Nat} (h : covF l a k = false) : fewTo l a (k + 1) = fewTo l a k := by rw [fewTo, if_neg (fun e => by rw [h] at e; cases e.2)]
theorem fewTo_lt (l : List Int) (a : Int) : ∀ k, k ≤ pw (ord l) → fewTo l a k < pw (ord l)
  | 0, _ => fullN_lt l
  | k + 1, h => by
    rw [fewTo]; split
    · omega
    · exact fewTo_lt l a k (by omega)
theorem sumF_none (l : List Int) (a : Nat) : sumF l a 0 = 0 := by
  have e : elems 0 = [] := by decide
  unfold sumF; rw [e]
  have h : ∀ L : List Nat, L.flatMap (fun _ => ([] : List Nat)) = [] := fun L => by simp
  show bset ((elems a).flatMap (fun _ => [])) = 0
  rw [h]; rfl
theorem cov_none {l : List Int} (h : isGrp l = true) (a : Int) : covF l a 0 = false := by
  unfold covF
  have h1 : (sumF l a.toNat (0 : Int).toNat) = 0 := sumF_none l a.toNat
  rw [h1, fullF_n h]
  have h2 : 1 ≤ fullN l := by
    unfold fullN pw
    have : 2 ^ 1 ≤ 2 ^ ord l := Nat.pow_le_pow_right (by omega) (ord_bd h).1
    omega
  have h3 : decide (((0 : Nat) : Int) = (fullN l : Int)) = false := by simp; omega
  rw [h3]; simp
theorem fewTo_one {l : List Int} (h : isGrp l = true) (a : Int) : fewTo l a 1 = fullN l := fewTo_no' (k := 0) (cov_none h a)
/-- the first of most elements below k whose shifts do not meet -/
def mostTo (l : List Int) (a : Int) : Nat → Nat
  | 0 => 0
  | k + 1 => if cnt (mostTo l a k) < cnt k ∧ directF l a k = true then k else mostTo l a k
theorem mostTo_yes {l : List Int} {a : Int} {k : Nat} (h : cnt (mostTo l a k) < cnt k) (h2 : directF l a k = true) : mostTo l a (k + 1) = k := by rw [mostTo, if_pos ⟨h, h2⟩]
theorem mostTo_no {l : List Int} {a : Int} {k : Nat} (h : ¬ cnt (mostTo l a k) < cnt k) : mostTo l a (k + 1) = mostTo l a k := by rw [mostTo, if_neg (fun e => h e.1)]
theorem mostTo_no' {l : List Int} {a : Int} {k : Nat} (h : directF l a k = false) : mostTo l a (k + 1) = mostTo l a k := by rw [mostTo, if_neg (fun e => by rw [h] at e; cases e.2)]
theorem mostTo_lt (l : List Int) (a : Int) : ∀ k, k ≤ pw (ord l) → mostTo l a k < pw (ord l)
  | 0, _ => pw_pos _
  | k + 1, h => by
    rw [mostTo]; split
    · omega
    · exact mostTo_lt l a k (by omega)
theorem mostTo_one (l : List Int) (a : Int) : mostTo l a 1 = 0 := mostTo_no (k := 0) (by simp [mostTo])
def fewF (l : List Int) (a : Int) : Int := if trB l a then (fewTo l a (pw (ord l)) : Int) else 0
theorem fewF_no {l : List Int} {a : Int} (h : trB l a = false) : fewF l a = 0 := by unfold fewF; rw [h]; rfl
theorem fewF_yes {l : List Int} {a : Int} (h : trB l a = true) : fewF l a = (fewTo l a (pw (ord l)) : Int) := by unfold fewF; rw [if_pos h]
def mostTF (l : List Int) (a : Int) : Int := if trB l a then (mostTo l a (pw (ord l)) : Int) else 0
theorem mostTF_no {l : List Int} {a : Int} (h : trB l a = false) : mostTF l a = 0 := by unfold mostTF; rw [h]; rfl
theorem mostTF_yes {l : List Int} {a : Int} (h : trB l a = true) : mostTF l a = (mostTo l a (pw (ord l)) : Int) := by unfold mostTF; rw [if_pos h]

end Go.Zz

/- EqualGroups, MeetingBound. -/
namespace Go.Zz
open Go.RowKit Go.Proofs
set_option maxHeartbeats 400000



end Go.Zz

/- Plain facts on translates: least covers, greedy covers, packings, tiles; sizes of intersections are counts of differences. -/
namespace Go.Zz
open Go.RowKit Go.Proofs
set_option linter.unusedVariables false

/-! ### sizes -/
theorem and_z {a b : Nat} : a &&& b = 0 ↔ ∀ i, a.testBit i = true → b.testBit i = false := by
  constructor
  · intro h i hi
    have := congrArg (fun n => n.testBit i) h
    simp only [Nat.testBit_and, Nat.zero_testBit, hi, Bool.true_and] at this
    exact this
  · intro h
    refine Nat.eq_of_testBit_eq fun i => ?_
    rw [Nat.testBit_and, Nat.zero_testBit]
    cases ha : a.testBit i
    · rfl
    · rw [h i ha]; rfl
theorem filt_or (p q : Nat → Bool) : ∀ L : List Nat, (L.filter (fun x => p x || q x)).length + (L.filter (fun x => p x && q x)).length = (L.filter p).length + (L.filter q).length
  | [] => rfl
  | x :: L => by
    have ih := filt_or p q L
    simp only [List.filter_cons]
    cases p x <;> cases q x <;> simp <;> omega
theorem cnt_or_and (a b : Nat) : cnt (a ||| b) + cnt (a &&& b) = cnt a + cnt b := by
  have h := filt_or (fun i => a.testBit i) (fun i => b.testBit i) (List.range 24)
  unfold cnt elems
  have e1 : (fun i => (a ||| b).testBit i) = (fun i => a.testBit i || b.testBit i) := by funext i; exact Nat.testBit_or _ _ _
  have e2 : (fun i => (a &&& b).testBit i) = (fun i => a.testBit i && b.testBit i) := by funext i; exact Nat.testBit_and _ _ _
  rw [e1, e2]; exact h
theorem cnt_pow (z : Nat) : cnt (2 ^ z) ≤ 1 := by
  by_cases hz : z < 24
  · have := cnt_or_new (b := 0) (by omega) hz (by simp)
    rw [Nat.zero_or, cnt_zero] at this; omega
  · have e : elems (2 ^ z) = [] := by
      unfold elems; rw [List.filter_eq_nil_iff]; intro i hi
      have := List.mem_range.1 hi
      rw [bit_two]; simp; omega
    unfold cnt; rw [e]; simp
theorem cnt_fold : ∀ (L : List Nat) (a : Nat), cnt (L.foldl (fun a z => a ||| 2 ^ z) a) ≤ cnt a + L.length
  | [], a => Nat.le_refl _
  | z :: L, a => by
    rw [List.foldl_cons]
    have h1 := cnt_fold L (a ||| 2 ^ z)
    have h2 := cnt_or_and a (2 ^ z)
    have h3 := cnt_pow z
    rw [List.length_cons]; omega
theorem cnt_sum_le (l : List Int) (a b : Nat) : cnt (sumF l a b) ≤ cnt a * cnt b := by
  have h1 := cnt_fold (sumsL l (elems a) (elems b)) 0
  rw [cnt_zero, sums_len] at h1
  have e : sumF l a b = (sumsL l (elems a) (elems b)).foldl (fun a z => a ||| 2 ^ z) 0 := rfl
  rw [e]; unfold cnt at h1 ⊢; omega
theorem cnt_full {l : List Int} (hg : isGrp l = true) : cnt (fullN l) = ord l := by
  have hb := ord_bd hg
  have e : elems (fullN l) = elemsTo (fullN l) (ord l) := (elemsTo_all hb.2 (fullN_lt l)).symm
  unfold cnt; rw [e]; unfold elemsTo
  rw [List.filter_eq_self.2 fun i hi => by rw [fullN_bit]; simpa using hi]; simp
theorem sum_or_one {l : List Int} {a b z : Nat} (hz : z < 24) : sumF l a (b ||| 2 ^ z) = sumF l a b ||| shiftF l a z := by
  refine Nat.eq_of_testBit_eq fun i => bool_eq_of ?_
  rw [Nat.testBit_or, Bool.or_eq_true, testBit_sumF, testBit_sumF, testBit_shiftF]
  constructor
  · rintro ⟨u, v, hu, hu2, hv, hv2, e⟩
    rw [Nat.testBit_or, bit_two, Bool.or_eq_true, decide_eq_true_iff] at hv2
    rcases hv2 with q | q
    · exact Or.inl ⟨u, v, hu, hu2, hv, q, e⟩
    · subst q; exact Or.inr ⟨u, hu, hu2, by rw [addF_comm]; exact e⟩
  · rintro (⟨u, v, hu, hu2, hv, hv2, e⟩ | ⟨u, hu, hu2, e⟩)
    · exact ⟨u, v, hu, hu2, hv, by rw [Nat.testBit_or, hv2]; rfl, e⟩
    · exact ⟨u, z, hu, hu2, hz, by rw [Nat.testBit_or, bit_two]; simp, by rw [addF_comm]; exact e⟩
theorem shift_sub {l : List Int} {a b z : Nat} (hz : z < 24) (h : b.testBit z = true) : Sub (shiftF l a z) (sumF l a b) := fun i hi => by
  obtain ⟨u, hu, hu2, e⟩ := testBit_shiftF.1 hi
  exact testBit_sumF.2 ⟨u, z, hu, hu2, hz, h, by rw [addF_comm]; exact e⟩

/-! ### covers -/
theorem cov_iff {l : List Int} (hg : isGrp l = true) {a x : Nat} (ha : isSetB l a = true) (hx : isSetB l x = true) : covF l a x = true ↔ sumF l a x = fullN l := by
  rw [covF_yes (by rw [ha, hx]; rfl), beq_iff_eq, fullF_n hg]; omega
theorem cov_set {l : List Int} {a x : Int} (h : covF l a x = true) : isSetB l x = true := by
  unfold covF at h; simp only [Bool.and_eq_true] at h; exact h.1.2
theorem few_min (l : List Int) (a : Int) : ∀ k (x : Nat), x < k → covF l a x = true → cnt (fewTo l a k) ≤ cnt x
  | 0, x, hx, _ => by omega
  | k + 1, x, hx, hc => by
    by_cases e : cnt k < cnt (fewTo l a k)
    · cases q : covF l a k
      · rw [fewTo_no' q]
        by_cases hk : x = k
        · subst hk; rw [q] at hc; cases hc
        · exact few_min l a k x (by omega) hc
      · rw [fewTo_yes e q]
        by_cases hk : x = k
        · subst hk; exact Nat.le_refl _
        · have := few_min l a k x (by omega) hc; omega
    · rw [fewTo_no e]
      by_cases hk : x = k
      · subst hk; omega
      · exact few_min l a k x (by omega) hc
theorem few_cov {l : List Int} {a : Int} (h : covF l a (fullN l) = true) : ∀ k, covF l a (fewTo l a k) = true
  | 0 => h
  | k + 1 => by
    rw [fewTo]
    split
    · next e => exact e.2
    · exact few_cov h k
theorem cov_full {l : List Int} (hg : isGrp l = true) {a : Nat} (ha : a ≠ 0) (ha2 : a < 2 ^ ord l) : sumF l a (fullN l) = fullN l := by
  have hb := ord_bd hg
  obtain ⟨y, hy⟩ := bit_of_pos ha
  have hy2 := bit_lt ha2 hy
  refine Nat.eq_of_testBit_eq fun i => bool_eq_of ⟨fun h => ?_, fun h => ?_⟩
  · rw [fullN_bit]; exact decide_eq_true (bit_lt (sumF_lt (isGrp_ords hg) a _) h)
  · rw [fullN_bit, decide_eq_true_iff] at h
    exact testBit_sumF.2 ⟨y, addF l i (negF l y), by omega, hy, addF_bd hg _ _, by rw [fullN_bit]; exact decide_eq_true (addF_lt l (isGrp_ords hg) _ _), add_sub (isGrp_ords hg) h⟩
theorem greedy_cov {l : List Int} (hg : isGrp l = true) {a : Nat} (ha : a ≠ 0) (ha2 : a < 2 ^ ord l) : ∀ n out left, left = andN (fullN l) (sumF l a out) → out < 2 ^ ord l → left ≤ n → sumF l a (greedyN l a n out left) = fullN l ∧ greedyN l a n out left < 2 ^ ord l
  | 0, out, left, h, ho, hl => by
    have h0 : left = 0 := by omega
    subst h0
    exact ⟨(left_zero (sumF_lt (isGrp_ords hg) a out)).1 h.symm, ho⟩
  | n + 1, out, left, h, ho, hl => by
    by_cases h0 : left = 0
    · subst h0
      rw [greedyN_end]
      exact ⟨(left_zero (sumF_lt (isGrp_ords hg) a out)).1 h.symm, ho⟩
    · rw [greedyN_step h0]
      have hb := bestAt_lt hg a left
      have ho2 := ord_bd hg
      have hl2 : left < 2 ^ ord l := by rw [h]; exact andN_lt (fullN_lt l)
      have hless := greedy_less hg ha ha2 h0 hl2
      refine greedy_cov hg ha ha2 n _ _ ?_ (Nat.or_lt_two_pow ho (Nat.pow_lt_pow_right (by omega) hb)) (by omega)
      rw [sum_or_one (by omega), left_next, ← h]

/-! ### packings -/
theorem dir_iff {l : List Int} {a x : Nat} (ha : isSetB l a = true) (hx : isSetB l x = true) : directF l a x = true ↔ cnt (sumF l a x) = cnt a * cnt x := by
  rw [directF_yes (by rw [ha, hx]; rfl), beq_iff_eq, ← Int.natCast_mul]; omega
theorem dir_set {l : List Int} {a x : Int} (h : directF l a x = true) : isSetB l x = true := by
  unfold directF at h; simp only [Bool.and_eq_true] at h; exact h.1.2
theorem most_max (l : List Int) (a : Int) : ∀ k (x : Nat), x < k → directF l a x = true → cnt x ≤ cnt (mostTo l a k)
  | 0, x, hx, _ => by omega
  | k + 1, x, hx, hc => by
    by_cases e : cnt (mostTo l a k) < cnt k
    · cases q : directF l a k
      · rw [mostTo_no' q]
        by_cases hk : x = k
        · subst hk; rw [q] at hc; cases hc
        · exact most_max l a k x (by omega) hc
      · rw [mostTo_yes e q]
        by_cases hk : x = k
        · subst hk; exact Nat.le_refl _
        · have := most_max l a k x (by omega) hc; omega
    · rw [mostTo_no e]
      by_cases hk : x = k
      · subst hk; omega
      · exact most_max l a k x (by omega) hc
theorem most_dir {l : List Int} {a : Int} (h : directF l a (0 : Nat) = true) : ∀ k, directF l a (mostTo l a k) = true
  | 0 => h
  | k + 1 => by
    rw [mostTo]
    split
    · next e => exact e.2
    · exact most_dir h k

/-! ### tiles -/
def Til (l : List Int) (a Y : Nat) : Prop := Y < 2 ^ ord l ∧ sumF l a Y = fullN l ∧ cnt a * cnt Y = ord l
/-- a shift by an element of a tile meets no other shifts -/
theorem til_apart {l : List Int} (hg : isGrp l = true) {a Y d : Nat} (h : Til l a Y) (ha2 : a < 2 ^ ord l) (hd : Y.testBit d = true) : shiftF l a d &&& sumF l a (andN Y (2 ^ d)) = 0 := by
  obtain ⟨hY, hs, hc⟩ := h
  have hob := ord_bd hg
  have hd2 := bit_lt hY hd
  refine Classical.byContradiction fun hne => ?_
  have hlt : shiftF l a d &&& sumF l a (andN Y (2 ^ d)) < 2 ^ 24 := Nat.lt_of_le_of_lt Nat.and_le_left (shiftF_bd hg a d)
  have hp := cnt_pos (Nat.pos_of_ne_zero hne) hlt
  have h1 := cnt_or_and (shiftF l a d) (sumF l a (andN Y (2 ^ d)))
  have h2 := cnt_sum_le l a (andN Y (2 ^ d))
  have h3 : andN Y (2 ^ d) ||| 2 ^ d = Y := put_back hd
  have h4 := sum_or_one (l := l) (a := a) (b := andN Y (2 ^ d)) (z := d) (by omega)
  rw [h3, hs] at h4
  have h5 : cnt Y = cnt (andN Y (2 ^ d)) + 1 := by
    have := cnt_or_new (b := andN Y (2 ^ d)) (x := d) (Nat.lt_of_lt_of_le (andN_lt hY) (pow_ord hg)) (by omega) (andN_self_bit Y d)
    rw [h3] at this; exact this
  rw [Nat.or_comm, ← h4, cnt_full hg, cnt_shift hg ha2] at h1
  rw [h5, Nat.mul_add, Nat.mul_one] at hc
  omega
theorem fold_find {P : Nat → Prop} [DecidablePred P] (F : Nat → Nat → List Nat) : ∀ (L : List Nat) (out : List Nat), (out ≠ [] ∨ ∃ x ∈ L, P x ∧ F x 1 ≠ []) → L.foldl (fun (out : List Nat) (x : Nat) => if out.length < 1 ∧ P x then out ++ F x (1 - out.length) else out) out ≠ []
  | [], out, h => by
    rcases h with h | ⟨x, hx, _⟩
    · exact h
    · cases hx
  | y :: L, out, h => by
    rw [List.foldl_cons]
    refine fold_find F L _ ?_
    by_cases ho : out = []
    · subst ho
      rcases h with h | ⟨x, hx, hp, hf⟩
      · exact absurd rfl h
      · rw [List.mem_cons] at hx
        rcases hx with rfl | hx
        · left; rw [if_pos ⟨by simp, hp⟩]; simpa using hf
        · right; exact ⟨x, hx, hp, hf⟩
    · left
      have : ¬ (out.length < 1 ∧ P y) := fun e => ho (List.eq_nil_of_length_eq_zero (by omega))
      rw [if_neg this]; exact ho
theorem fold_all {P : Nat → Prop} [DecidablePred P] {Q : Nat → Prop} (m : Nat) (F : Nat → Nat → List Nat) : ∀ (L : List Nat) (out : List Nat), (∀ z ∈ out, Q z) → (∀ x ∈ L, P x → ∀ k, ∀ z ∈ F x k, Q z) → ∀ z ∈ L.foldl (fun (out : List Nat) (x : Nat) => if out.length < m ∧ P x then out ++ F x (m - out.length) else out) out, Q z
  | [], out, h, _ => h
  | y :: L, out, h, hF => by
    rw [List.foldl_cons]
    refine fold_all m F L _ ?_ (fun x hx => hF x (by simp [hx]))
    split
    · next e =>
      intro z hz
      rw [List.mem_append] at hz
      rcases hz with hz | hz
      · exact h z hz
      · exact hF y (by simp) e.2 _ z hz
    · exact h
theorem low_first {l : List Int} (hg : isGrp l = true) {u : Nat} (hu : u < 2 ^ ord l) (hne : u ≠ fullN l) : lowZ u < ord l ∧ u.testBit (lowZ u) = false := by
  have hb := ord_bd hg
  have : ∃ j, j < ord l ∧ u.testBit j = false ∧ ∀ i, i < j → u.testBit i = true := by
    refine Classical.byContradiction fun hq => hne (not_full hu (e := ord l) ?_ (Nat.le_refl _))
    intro j
    induction j using Nat.strongRecOn with
    | ind j ih =>
      intro hj
      refine Classical.byContradiction fun hb => hq ⟨j, hj, by simpa using hb, fun i hi => ih i hi (by omega)⟩
  obtain ⟨j, hj, h1, h2⟩ := this
  rw [lowZ_is h2 h1 (by omega)]
  exact ⟨hj, h1⟩
theorem tl_find {l : List Int} (hg : isGrp l = true) {a Y : Nat} (ha : a ≠ 0) (ha2 : a < 2 ^ ord l) (hY : Til l a Y) : ∀ f u b, u < 2 ^ ord l → Sub b Y → u = sumF l a b → ord l < f + cnt u → tlS l a f u b 1 ≠ []
  | 0, u, b, hu, _, _, hf => by have := cnt_ord hg hu; omega
  | f + 1, u, b, hu, hb, hs, hf => by
    have hob := ord_bd hg
    have hO := isGrp_ords hg
    by_cases hfull : u = fullN l
    · rw [tlS_full hfull]; simp
    · obtain ⟨he, hbit⟩ := low_first hg hu hfull
      unfold tlS
      rw [if_neg hfull]
      have hin : (fullN l).testBit (lowZ u) = true := by rw [fullN_bit]; exact decide_eq_true he
      rw [← hY.2.1] at hin
      obtain ⟨x, d, hx, hx2, hd, hd2, e⟩ := testBit_sumF.1 hin
      have hdF : dF l u x = d := by
        unfold dF
        rw [← e, addF_comm l x d, addF_assoc l hO, addF_neg l hO, addF_zero' hO (bit_lt hY.1 hd2)]
      have hdb : b.testBit d = false := by
        refine Classical.byContradiction fun q => ?_
        have q' : b.testBit d = true := by simpa using q
        have : u.testBit (lowZ u) = true := by rw [hs]; exact testBit_sumF.2 ⟨x, d, hx, hx2, hd, q', by rw [← hs]; exact e⟩
        rw [hbit] at this; cases this
      have hap : shiftF l a d &&& u = 0 := by
        have h1 := til_apart hg hY ha2 hd2
        rw [and_z] at h1 ⊢
        intro i hi
        have h2 := h1 i hi
        refine Classical.byContradiction fun q => ?_
        have q' : u.testBit i = true := by simpa using q
        rw [hs] at q'
        have := sumF_mono (l := l) (a := a) (b := a) (Sub.refl a) (c := b) (d := andN Y (2 ^ d)) (fun j hj => by
          rw [andN_bit, hb j hj, bit_two]
          have : ¬ d = j := fun q => by subst q; rw [hdb] at hj; cases hj
          simp [this]) i q'
        rw [h2] at this; cases this
      refine fold_find (P := fun x => shiftF l a (dF l u x) &&& u = 0) (fun x k => tlS l a f (u ||| shiftF l a (dF l u x)) (b ||| 2 ^ dF l u x) k) _ _ (Or.inr ⟨x, mem_elems.2 ⟨hx, hx2⟩, by rw [hdF]; exact hap, ?_⟩)
      have hm := tl_more hg ha ha2 hu d hap
      show tlS l a f (u ||| shiftF l a (dF l u x)) (b ||| 2 ^ dF l u x) 1 ≠ []
      rw [hdF]
      refine tl_find hg ha ha2 hY f _ _ hm.1 ?_ ?_ (by omega)
      · intro i hi
        rw [Nat.testBit_or, Bool.or_eq_true, bit_two, decide_eq_true_iff] at hi
        rcases hi with q | q
        · exact hb i q
        · subst q; exact hd2
      · rw [sum_or_one hd, ← hs]
theorem tl_sound {l : List Int} (hg : isGrp l = true) {a : Nat} (ha : a ≠ 0) (ha2 : a < 2 ^ ord l) : ∀ f u b m, u < 2 ^ ord l → b < 2 ^ ord l → u = sumF l a b → cnt u = cnt a * cnt b → ∀ z ∈ tlS l a f u b m, Til l a z
  | 0, _, _, _, _, _, _, _, z, hz => by simp [tlS] at hz
  | f + 1, u, b, m, hu, hb, hs, hc, z, hz => by
    have hob := ord_bd hg
    by_cases hfull : u = fullN l
    · rw [tlS_full hfull, List.mem_singleton] at hz
      subst hz
      exact ⟨hb, by rw [← hs, hfull], by rw [← hc, hfull, cnt_full hg]⟩
    · unfold tlS at hz
      rw [if_neg hfull] at hz
      refine fold_all (P := fun x => shiftF l a (dF l u x) &&& u = 0) (Q := Til l a) m (fun x k => tlS l a f (u ||| shiftF l a (dF l u x)) (b ||| 2 ^ dF l u x) k) (elems a) [] (by simp) ?_ z hz
      intro x hx hap k z hz
      have hdl := dF_lt hg u x
      obtain ⟨d, hd⟩ : ∃ d, d = dF l u x := ⟨_, rfl⟩
      have hz' : z ∈ tlS l a f (u ||| shiftF l a (dF l u x)) (b ||| 2 ^ dF l u x) k := hz
      rw [← hd] at hz' hap hdl
      have hm := tl_more hg ha ha2 hu d hap
      have hdb : b.testBit d = false := by
        refine Classical.byContradiction fun q => ?_
        have q' : b.testBit d = true := by simpa using q
        have h1 := shift_sub (l := l) (a := a) (by omega : d < 24) q'
        have h2 : u ||| shiftF l a d = u := by
          refine Nat.eq_of_testBit_eq fun i => bool_eq_of ?_
          rw [Nat.testBit_or, Bool.or_eq_true]
          exact ⟨fun e => e.elim id fun e => by rw [hs]; exact h1 i e, Or.inl⟩
        rw [h2] at hm; omega
      refine tl_sound hg ha ha2 f _ _ k hm.1 (Nat.or_lt_two_pow hb (Nat.pow_lt_pow_right (by omega) hdl)) (by rw [sum_or_one (by omega), ← hs]) ?_ z hz'
      have h3 := cnt_or_and u (shiftF l a d)
      rw [Nat.and_comm] at h3
      rw [hap, cnt_zero, cnt_shift hg ha2] at h3
      have h4 := cnt_or_new (Nat.lt_of_lt_of_le hb (pow_ord hg)) (by omega : d < 24) hdb
      rw [h4, Nat.mul_add, Nat.mul_one]; omega
theorem sum_one {l : List Int} (hg : isGrp l = true) {a : Nat} (ha2 : a < 2 ^ ord l) : sumF l a 1 = a := by
  have hob := ord_bd hg
  refine Nat.eq_of_testBit_eq fun i => bool_eq_of ?_
  rw [testBit_sumF]
  constructor
  · rintro ⟨u, v, hu, hu2, hv, hv2, e⟩
    rw [one_bit, decide_eq_true_iff] at hv2
    subst hv2
    rw [← e, addF_zero' (isGrp_ords hg) (bit_lt ha2 hu2)]; exact hu2
  · intro hi
    have := bit_lt ha2 hi
    exact ⟨i, 0, by omega, hi, by omega, by decide, addF_zero' (isGrp_ords hg) this⟩
/-- the search finds a tile where there is one, and nothing else -/
theorem ft_iff {l : List Int} (hg : isGrp l = true) {a : Nat} (ha : a ≠ 0) (ha2 : a < 2 ^ ord l) : ftB l a = true ↔ ∃ Y, Til l a Y := by
  have hob := ord_bd hg
  have hO := isGrp_ords hg
  have h1 : isOneB l a = true := isOneB_yes (isSetB_of hg ha2) (Nat.pos_of_ne_zero ha)
  have c1 : cnt 1 = 1 := by decide
  constructor
  · intro h
    cases hL : tileL l a 1 with
    | nil => rw [(ft_nil hL).1] at h; cases h
    | cons x L => exact ⟨x, tl_sound hg ha ha2 (ord l + 1) a 1 1 ha2 (one_lt hg) (sum_one hg ha2).symm (by rw [c1, Nat.mul_one]) x (by show x ∈ tileL l a 1; rw [hL]; simp)⟩
  · rintro ⟨Y, hY, hs, hc⟩
    have hY0 : Y ≠ 0 := fun e => by rw [e, cnt_zero] at hc; omega
    obtain ⟨y, hy⟩ := bit_of_pos hY0
    have hyo := bit_lt hY hy
    have hT : Til l a (shiftF l Y (negF l y)) := by
      refine ⟨shiftF_lt hO _ _, ?_, by rw [cnt_shift hg hY]; exact hc⟩
      refine Nat.eq_of_testBit_eq fun i => bool_eq_of ⟨fun h => ?_, fun h => ?_⟩
      · rw [fullN_bit]; exact decide_eq_true (bit_lt (sumF_lt hO a _) h)
      · rw [fullN_bit, decide_eq_true_iff] at h
        have hin : (fullN l).testBit (addF l i y) = true := by rw [fullN_bit]; exact decide_eq_true (addF_lt l hO _ _)
        rw [← hs] at hin
        obtain ⟨x, d, hx, hx2, hd, hd2, e⟩ := testBit_sumF.1 hin
        refine testBit_sumF.2 ⟨x, addF l (negF l y) d, hx, hx2, addF_bd hg _ _, testBit_shiftF.2 ⟨d, hd, hd2, rfl⟩, ?_⟩
        rw [addF_comm l (negF l y) d, ← addF_assoc l hO, e, addF_assoc l hO, addF_neg l hO, addF_zero' hO h]
    have hne := tl_find hg ha ha2 hT (ord l + 1) a 1 ha2 (fun i hi => by
      rw [one_bit, decide_eq_true_iff] at hi
      subst hi
      exact testBit_shiftF.2 ⟨y, by omega, hy, by rw [addF_comm]; exact addF_neg l hO y⟩) (sum_one hg ha2).symm (by
      have := cnt_pos (Nat.pos_of_ne_zero ha) (Nat.lt_of_lt_of_le ha2 (pow_ord hg)); omega)
    cases hL : tileL l a 1 with
    | nil => exact absurd hL hne
    | cons x L => exact (ft_yes h1 hL).1

/-! ### all together -/

/-! ### sizes of intersections -/
def corF (l : List Int) (a b : Int) : List Int := if isSetB l a && isSetB l b then tabN l a.toNat (oppF l b.toNat) else []
theorem corF_no {l : List Int} {a b : Int} (h : (isSetB l a && isSetB l b) = false) : corF l a b = [] := by unfold corF; rw [h]; rfl
theorem corF_yes {l : List Int} {a b : Nat} (h : (isSetB l a && isSetB l b) = true) : corF l a b = tabN l a (oppF l b) := by unfold corF; rw [if_pos h]; rfl
theorem cnt_opp {l : List Int} (hg : isGrp l = true) {a : Nat} (ha : a < 2 ^ ord l) : cnt (oppF l a) = cnt a := by
  have hO := isGrp_ords hg
  unfold oppF
  rw [cnt_bset]
  · simp [cnt]
  · refine List.Pairwise.map _ ?_ (List.Pairwise.and_mem.1 (elems_nodup a))
    rintro y z ⟨hy, hz, hne⟩ e
    have h1 := neg_neg hO (bit_lt ha (mem_elems.1 hy).2)
    rw [e, neg_neg hO (bit_lt ha (mem_elems.1 hz).2)] at h1
    exact hne h1.symm
  · intro y hy
    obtain ⟨z, _, rfl⟩ := List.mem_map.1 hy
    exact negF_bd hg _
theorem count_row {l : List Int} (hg : isGrp l = true) {b u x : Nat} (hb : b < 2 ^ ord l) (hu : u < ord l) (hx : x < ord l) :
    ((elems (oppF l b)).map (fun y => addF l u y)).count x = ((shiftF l b x).testBit u).toNat := by
  have hob := ord_bd hg
  have hO := isGrp_ords hg
  have hnd : ((elems (oppF l b)).map (fun y => addF l u y)).Nodup := by
    refine List.Pairwise.map _ ?_ (List.Pairwise.and_mem.1 (elems_nodup _))
    rintro y z ⟨hy, hz, hne⟩ e
    exact hne (addF_cancel hO (bit_lt (oppF_lt hO b) (mem_elems.1 hy).2) (bit_lt (oppF_lt hO b) (mem_elems.1 hz).2) e)
  have h1 := List.nodup_iff_count.1 hnd x
  have hm : x ∈ (elems (oppF l b)).map (fun y => addF l u y) ↔ (shiftF l b x).testBit u = true := by
    rw [List.mem_map, testBit_shiftF]
    constructor
    · rintro ⟨y, hy, e⟩
      obtain ⟨z, hz, hz2, rfl⟩ := testBit_oppF.1 (mem_elems.1 hy).2
      refine ⟨z, hz, hz2, ?_⟩
      rw [← e, addF_assoc l hO, addF_comm l (negF l z) z, addF_neg l hO, addF_zero' hO hu]
    · rintro ⟨z, hz, hz2, e⟩
      refine ⟨negF l z, mem_elems.2 ⟨negF_bd hg z, testBit_oppF.2 ⟨z, hz, hz2, rfl⟩⟩, ?_⟩
      rw [← e, addF_assoc l hO, addF_neg l hO, addF_zero' hO hx]
  cases hs : (shiftF l b x).testBit u
  · have : x ∉ (elems (oppF l b)).map (fun y => addF l u y) := fun q => by rw [hm, hs] at q; cases q
    rw [List.count_eq_zero.2 this]; rfl
  · have := List.count_pos_iff.2 (hm.2 hs)
    show _ = 1
    omega
theorem sum_toNat' (q : Nat → Bool) : ∀ L : List Nat, (L.map (fun x => (q x).toNat)).sum = (L.filter q).length
  | [] => rfl
  | x :: L => by
    simp only [List.map_cons, List.sum_cons]
    rw [sum_toNat' q L]
    cases h : q x <;> simp [h]; omega
theorem inter_tab {l : List Int} (hg : isGrp l = true) {a b : Nat} (ha : a < 2 ^ ord l) (hb : b < 2 ^ ord l) : interTo l a b (ord l) = tabN l a (oppF l b) := by
  refine ext_nth (by rw [interTo_len, tabN_len]) fun x hx => ?_
  rw [interTo_len] at hx
  rw [nth_tabN hg]
  have e1 : nth (interTo l a b (ord l)) x = (cnt (a &&& shiftF l b x) : Int) := by
    unfold interTo
    rw [nth_castL]
    simp [nthN, List.getD, hx]
  rw [e1]
  congr 1
  unfold sumsL
  rw [List.count_flatMap]
  have e2 : (elems a).map (List.count x ∘ fun u => (elems (oppF l b)).map (fun y => addF l u y)) = (elems a).map (fun u => ((shiftF l b x).testBit u).toNat) := by
    refine List.map_congr_left fun u hu => ?_
    exact count_row hg hb (bit_lt ha (mem_elems.1 hu).2) hx
  rw [e2, sum_toNat']
  unfold cnt elems
  rw [List.filter_filter]
  congr 1
  refine List.filter_congr fun u _ => ?_
  rw [Nat.testBit_and, Bool.and_comm]
theorem inter_cor (l : List Int) (a b : Int) : interF l a b = corF l a b := by
  cases h : (isSetB l a && isSetB l b)
  · rw [corF_no h]; unfold interF; rw [h]; rfl
  · have hp := h
    rw [Bool.and_eq_true] at hp
    obtain ⟨a, rfl, ha, -, hg⟩ := isSetB_nat hp.1
    obtain ⟨b, rfl, hb, -⟩ := isSetB_nat hp.2
    rw [corF_yes h]; unfold interF; rw [if_pos h]
    exact inter_tab hg ha hb
def totTo (t : List Int) : Nat → Int
  | 0 => 0
  | k + 1 => totTo t k + nth t k
theorem totTo_succ (t : List Int) (k : Nat) : totTo t (k + 1) = totTo t k + nth t k := rfl
theorem totTo_bd {t : List Int} {B : Int} (h : ∀ i, 0 ≤ nth t i ∧ nth t i ≤ B) : ∀ k, 0 ≤ totTo t k ∧ totTo t k ≤ B * (k : Int)
  | 0 => by simp [totTo]
  | k + 1 => by
    have ih := totTo_bd h k
    have := h k
    have e : B * ((k + 1 : Nat) : Int) = B * (k : Int) + B := by rw [Int.natCast_add, Int.mul_add]; simp
    rw [totTo_succ, e]; omega
theorem filt_lt (k : Nat) : ∀ L : List Nat, (L.filter (fun x => decide (x < k + 1))).length = (L.filter (fun x => decide (x < k))).length + L.count k
  | [] => rfl
  | x :: L => by
    have ih := filt_lt k L
    rw [List.count_cons]
    by_cases h1 : x < k
    · rw [List.filter_cons_of_pos (by simp; omega), List.filter_cons_of_pos (by simpa using h1), List.length_cons, List.length_cons, ih]
      have : (x == k) = false := by simp; omega
      rw [this]; simp; omega
    · by_cases h2 : x = k
      · rw [List.filter_cons_of_pos (by simp; omega), List.filter_cons_of_neg (by simpa using h1), List.length_cons, ih]
        have : (x == k) = true := by simp [h2]
        rw [this]; simp; omega
      · rw [List.filter_cons_of_neg (by simp; omega), List.filter_cons_of_neg (by simpa using h1), ih]
        have : (x == k) = false := by simp [h2]
        rw [this]; simp
theorem tot_tab {l : List Int} (hg : isGrp l = true) (a b : Nat) : totTo (tabN l a b) (ord l) = ((cnt a * cnt b : Nat) : Int) := by
  have key : ∀ k, totTo (tabN l a b) k = (((sumsL l (elems a) (elems b)).filter (fun x => decide (x < k))).length : Int) := by
    intro k
    induction k with
    | zero => rw [List.filter_eq_nil_iff.2 (by simp)]; rfl
    | succ k ih => rw [totTo_succ, ih, nth_tabN hg, filt_lt]; omega
  rw [key, List.filter_eq_self.2 fun x hx => decide_eq_true (sumsL_lt hg x hx), sums_len]; rfl
theorem cor_tot {l : List Int} {a b : Nat} (h : (isSetB l a && isSetB l b) = true) : totTo (corF l a b) (corF l a b).length = (cnt a : Int) * (cnt b : Int) := by
  have hp := h
  rw [Bool.and_eq_true] at hp
  obtain ⟨b', e, hb, -, hg⟩ := isSetB_nat hp.2
  have e' : b' = b := by omega
  subst e'
  rw [corF_yes h, tabN_len, tot_tab hg, cnt_opp hg hb]; simp
end Go.Zz

/- The table of sums. -/
namespace Go.Zz
open Go.RowKit Go.Proofs
set_option maxHeartbeats 400000

theorem Own.cellAt {TI : TypeId} {w0 w : World} {g n c : Nat} {l : List Int} (h : Own TI w0 w (.slice (some ⟨g, 0, none⟩) n c) l) (hn : l.length = n) {i : Nat} (hi : i < n) :
    w.cell? ⟨g, i, none⟩ = some (.int .i64 (nth l i)) ∧ w.frozen? ⟨g, i, none⟩ = false := by
  obtain ⟨ao', c', hv, -, -, hs⟩ := h.shape
  obtain ⟨g', hg1, hc1, hf1⟩ := hs i (by omega)
  simp only [Value.slice.injEq] at hv
  obtain ⟨hv1, -, -⟩ := hv
  rw [← hv1] at hg1
  simp only [Option.some.injEq, Addr.mk.injEq, and_true] at hg1
  obtain rfl := hg1
  exact ⟨hc1, hf1⟩
theorem Own.row {TI : TypeId} {w0 w : World} {ao : Option Addr} {n c : Nat} {l : List Int} (h : Own TI w0 w (.slice ao n c) l) (hn : l.length = n) (hp : 0 < n) :
    ∃ g, ao = some ⟨g, 0, none⟩ ∧ w0.heap.size ≤ g ∧ g < w.heap.size := by
  obtain ⟨ao', c', hv, -, hb, hs⟩ := h.shape
  obtain ⟨g', hg1, hc1, hf1⟩ := hs 0 (by omega)
  simp only [Value.slice.injEq] at hv
  obtain ⟨hv1, -, -⟩ := hv
  subst hv1
  obtain ⟨g, e, h1, h2⟩ := hb _ hg1
  exact ⟨g, by rw [hg1, e], h1, h2⟩
theorem Own.nshape {TI : TypeId} {w0 w : World} {v : Value} {L : List Nat} (h : Own TI w0 w v (castL L)) : ∃ (ao : Option Addr) (c : Nat), v = .slice ao L.length c := by
  obtain ⟨ao, c, e, -, -, -⟩ := h.shape
  exact ⟨ao, c, by rw [e, castL_len]⟩
theorem row_index (g n c : Nat) : ∀ (i : Nat) W, i < n → (Instr.indexAt 24 (.slice (some ⟨g, 0, none⟩) n c) (.int .i64 (i : Int))).run Tryz.prog W = .ok (.pointer (some ⟨g, i, none⟩)) W := by
  intro i W hi
  rw [run_indexAt_slice (h := elI), if_pos (by omega), szI]
  simp [Result.andThen, Addr.add_lit]
theorem castL_nth {L : List Nat} {i : Nat} : nth (castL L) i = (nthN L i : Int) := nth_castL L i
theorem tabIn_len (l : List Int) (x : Nat) : ∀ (L : List Nat) (t : List Int), (tabIn l x t L).length = t.length
  | [], t => rfl
  | y :: L, t => by
    show (tabIn l x (bump t (addF l x y)) L).length = t.length
    rw [tabIn_len l x L, bump_len]
theorem tabOut_len (l : List Int) (b : Nat) : ∀ (L : List Nat) (t : List Int), (tabOut l b t L).length = t.length
  | [], t => rfl
  | x :: L, t => by
    show (tabOut l b (tabIn l x t (elems b)) L).length = t.length
    rw [tabOut_len l b L, tabIn_len]
theorem tabIn_upto {l : List Int} (hg : isGrp l = true) (x : Nat) : ∀ (L : List Nat) (t : List Int) (B : Int), t.length = ord l → Upto t B → Upto (tabIn l x t L) (B + L.length)
  | [], t, B, _, h => by simpa [tabIn] using h
  | y :: L, t, B, hl, h => by
    have hz : addF l x y < t.length := by rw [hl]; exact addF_lt l (isGrp_ords hg) x y
    have := tabIn_upto hg x L (bump t (addF l x y)) (B + 1) (by rw [bump_len]; exact hl) (h.bump hz)
    show Upto (tabIn l x (bump t (addF l x y)) L) _
    rw [List.length_cons]
    intro i; have := this i; push_cast at this ⊢; omega
theorem tabOut_upto {l : List Int} (hg : isGrp l = true) (b : Nat) : ∀ (L : List Nat) (t : List Int) (B : Int), t.length = ord l → Upto t B → Upto (tabOut l b t L) (B + 24 * L.length)
  | [], t, B, _, h => by simpa [tabOut] using h
  | x :: L, t, B, hl, h => by
    have h1 := tabIn_upto hg x (elems b) t B hl h
    have h2 := tabOut_upto hg b L (tabIn l x t (elems b)) (B + (elems b).length) (by rw [tabIn_len]; exact hl) h1
    have h3 := elems_len b
    show Upto (tabOut l b (tabIn l x t (elems b)) L) _
    rw [List.length_cons]
    intro i; have := h2 i; push_cast at this ⊢; omega
/-- the count that is to be raised fits -/
theorem tab_fits {l : List Int} (hg : isGrp l = true) {b x : Nat} {L M : List Nat} (hL : L.length ≤ 24) (hM : M.length ≤ 24) (i : Nat) :
    0 ≤ nth (tabIn l x (tabOut l b (List.replicate (ord l) 0) L) M) i ∧ nth (tabIn l x (tabOut l b (List.replicate (ord l) 0) L) M) i ≤ 1000 := by
  have h1 := tabOut_upto hg b L _ 0 (by simp) (Upto.zeros (ord l))
  have h2 := tabIn_upto hg x M _ _ (by rw [tabOut_len]; simp) h1
  have := h2 i
  omega

end Go.Zz

/- What the laws' own helpers on groups do. -/
namespace Go.Zz
open Go.RowKit Go.Proofs
set_option maxHeartbeats 400000

theorem eqGroup_any0 : True := trivial
end Go.Zz

/- Kept: the laws' helpers, EqualKept. -/
namespace Go.Zz
open Go.RowKit Go.Proofs
set_option maxHeartbeats 400000

/-- a value of type Kept -/
def IsK (w : World) (c : Value) (l : List Int) (n : Int) (m : List Int) : Prop := ∃ v u, c = .agg #[v, .int .i64 n, u] ∧ Ints w v l ∧ Ints w u m
theorem IsK.ext {w w' : World} {c : Value} {l m : List Int} {n : Int} (h : IsK w c l n m) (hE : Ext w w') : IsK w' c l n m := by
  obtain ⟨v, u, rfl, h1, h2⟩ := h; exact ⟨v, u, rfl, h1.ext hE, h2.ext hE⟩
def szK (l m : List Int) (left : Int) : Int := if szL l left < 0 then -1 else szL m (szL l left)
theorem szL_cases (l : List Int) {left : Int} (h : 0 ≤ left) : szL l left = -1 ∨ (0 ≤ szL l left ∧ szL l left ≤ left) := by unfold szL; split <;> omega


def eqK (l m : List Int) (n : Int) (l' m' : List Int) (n' : Int) : Bool := decide (l = l' ∧ n = n' ∧ m = m')
end Go.Zz

/- The table of sums of the reference; kept counts. -/
namespace Go.Zz
open Go.RowKit Go.Proofs
set_option maxHeartbeats 400000

theorem lat_cell {w : World} {p : Addr} {x : Value} (h : w.cell? p = some x) (U : World) : (Lat w U).cell? p = some x := (lat_ext w U).cell h
end Go.Zz

/- Kept counts: IsKept. -/
namespace Go.Zz
open Go.RowKit Go.Proofs
set_option maxHeartbeats 400000

end Go.Zz

/- Results that lie in memory: the block of a result, and what is stored there. -/
namespace Go.Zz
open Go.RowKit Go.Proofs
set_option maxHeartbeats 400000

/-- what a cell holds, closed to simp -/
def At (W : World) (a : Addr) : Value := (W.cell? a).getD (.int .i64 0)
/-- the first n cells of a block are there and may be written -/
def Res (W : World) (r n : Nat) : Prop := ∀ i, i < n → W.cell? ⟨r, i, none⟩ = some (At W ⟨r, i, none⟩) ∧ W.frozen? ⟨r, i, none⟩ = false
theorem At_of {W : World} {a : Addr} {v : Value} (h : W.cell? a = some v) : At W a = v := by unfold At; rw [h]; rfl
theorem Res.ext {W W' : World} {r n : Nat} (h : Res W r n) (hE : Ext W W') : Res W' r n := fun i hi => by
  obtain ⟨h1, h2⟩ := h i hi
  have h3 := hE.cell h1
  exact ⟨by rw [At_of h3]; exact h3, by rw [Below.frozen hE (World.block_lt_of_cell? W _ h1), h2]⟩
theorem Res.drew {W : World} {r n : Nat} (h : Res W r n) : Res W.drew r n := h.ext ((Ext.refl W).drew)
theorem Blk.res {W : World} {r : Nat} {T : TypeId} {cs : Array Value} (h : Blk W r T cs) {n : Nat} (hn : n ≤ cs.size) : Res W r n := fun i hi => by
  have h1 : W.cell? ⟨r, i, none⟩ = some (cs[i]'(by omega)) := h.cell (by simp)
  exact ⟨by rw [At_of h1]; exact h1, h.free i⟩
theorem Res.setCell {W : World} {r n : Nat} (h : Res W r n) (p : Addr) (x : Value) : Res (W.setCell p x) r n := fun i hi => by
  obtain ⟨h1, h2⟩ := h i hi
  obtain ⟨v', hv⟩ := cell?_setCell_some (w := W) (p := p) (x := x) h1
  exact ⟨by rw [At_of hv]; exact hv, by rw [World.frozen?_setCell, h2]⟩
theorem Blk.new' {w : World} {T : TypeId} {cs : Array Value} {b : Nat} (h : w.heap.size = b) : Blk (w.alloc (.cells cs T)) b T cs := by subst h; exact Blk.new _ _ _
theorem Blk.free_of {W : World} {r : Nat} {T : TypeId} {cs : Array Value} (h : Blk W r T cs) : ∀ i, W.frozen? ⟨r, i, none⟩ = false := h.free
theorem Calls.sh {P : Program} {f : FuncId} {args : Array Value} {TI : TypeId} {w : World} {L : List Int} (h : Calls P f args w fun e w' => ∃ v, e = .returned v ∧ Own TI w w' v L ∧ Ext w w') :
    Calls P f args w fun e w' => ∃ ao c, e = .returned (.slice ao L.length c) ∧ Own TI w w' (.slice ao L.length c) L ∧ Ext w w' :=
  h.mono fun e w' ⟨v, he, hO, hE⟩ => by
    obtain ⟨ao, c, rfl, -⟩ := hO.shape
    exact ⟨ao, c, he, hO, hE⟩
/-- append([]int{}, xs...) as a step of a region that draws its order -/
theorem step_copy {P : Program} {ops : Array Oper} {o : Oper} {a : Act} {w : World} {K : Act → World → Prop} {Q : Exit → Act → World → Prop} {E : Prop} {T TI : TypeId} (hT : IntSl P T TI)
    (hg : o.guard = none) (s x : Operand) (hop : o.op = Op.call { callee := Callee.builtin Builtin.append, args := #[s, x], argTypes := #[T, T] })
    (g : Nat) (u : Value) (m : List Int) (hs : a.eval s = .slice (some ⟨g, 0, none⟩) 0 0) (hx : a.eval x = u) (hB : Blk w g TI #[]) (hI : Ints w u m) (w0 : World) (h0 : w0.heap.size ≤ g) (hE : Ext w0 w)
    (hK : ∀ ao c w', Own TI w0 w' (.slice ao m.length c) m → Ext w w' → K (a.put o.dst (.slice ao m.length c)) w') :
    if Region.wanted o (yielded ops a.tmps) = true then Oper.wp P o a w K Q else E := by
  have hw : Region.wanted o (yielded ops a.tmps) = true := by simp [Region.wanted, hg]
  rw [if_pos hw]
  obtain ⟨i, hi, hz, hs1, hby⟩ := hT.info
  have hown : w.ownsRow w0.heap.size TI 1 (.slice (some ⟨g, 0, none⟩) 0 0) 0 [] := by
    have hB' : w.heap[g]? = some (.cells #[] TI (0, 0)) := hB
    exact ⟨by simp, Or.inr ⟨g, 0, #[], rfl, h0, hB', Nat.le_refl _, Nat.zero_le _, by simp, by simp⟩⟩
  obtain ⟨ao, c, rfl, hmc, hml, hc⟩ := hI
  have key : m = [] → Oper.wp P o a w K Q := by
    intro hm
    subst hm
    have hrun2 : (Builtin.append_ #[T, T] o.type #[.slice (some ⟨g, 0, none⟩) 0 0, .slice ao 0 c]).run P w = .ok (.slice (some ⟨g, 0, none⟩) 0 0) w := by
      have hrun := run_append_owned_none (P := P) w w0.heap.size T o.type TI i 1 hT.und hi (.slice (some ⟨g, 0, none⟩) 0 0) 0 [] hown
      rw [← hrun]; cases ao <;> simp [Builtin.append_, run_underlying hT.und, sizeOf, typeInfo, hi, Builtin.lenOf, Builtin.firstCells, go_sem]
    unfold Oper.wp
    simp [execOp, hop, resolve, invoke, builtin, hs, hx, hrun2, Result.andThen]
    exact hK (some ⟨g, 0, none⟩) 0 _ ⟨by simpa using hown, by simp⟩ (Ext.refl w)
  by_cases hm : m = []
  · exact key hm
  · have hpos : 0 < m.length := Nat.pos_of_ne_zero (fun e => hm (List.eq_nil_of_length_eq_zero e))
    cases ao with
    | none => obtain ⟨_, h, _⟩ := hc 0 hpos; cases h
    | some ad =>
      obtain ⟨v', w', hrun, r1, r2⟩ := run_append_arg_grows (P := P) (w := w) T o.type TI i (.int .i64 0) 1 8 hT.und hi hz hs1 hby rfl (by omega) ⟨g, 0, none⟩ 0 0 [] (by simp) (by simp) ad m.length c (m.map (Value.int .i64)) (by simp) (by
        intro j u hu
        have hj : j < m.length := by have := (List.getElem?_eq_some_iff.1 hu).1; simpa using this
        obtain ⟨a', ha', hc'⟩ := hc j hj
        cases ha'
        rw [hc', ← hu, nth_get _ _ hj]; simp [hj]) (by omega) (by unfold maxLen; omega) (by omega)
      unfold Oper.wp
      simp [execOp, hop, resolve, invoke, builtin, hs, hx, hrun, Result.andThen]
      have hO' : Own TI w w' v' m := ⟨by simpa using r1, hml⟩
      obtain ⟨ao', c', rfl, -⟩ := hO'.shape
      exact hK ao' c' w' (hO'.mono hE) ((Ext.refl w).grown r2 (by simp))
end Go.Zz

/- Marks in what is owned: groups. -/
namespace Go.Zz
open Go.RowKit Go.Proofs
/-- what lies in another block stays -/
theorem Own.kept {TI : TypeId} {w0 w w' : World} {v : Value} {l : List Int} {row : Option Nat} (h : Own TI w0 w v l) (hg : w.grownBy w' row) (hne : v.ownBlock = none ∨ v.ownBlock ≠ row) : Own TI w0 w' v l :=
  ⟨h.1.kept hg hne, h.2⟩
theorem blk_ne {TI : TypeId} {a b c d : World} {u v : Value} {l m : List Int} (h : Own TI a b u l) (k : Own TI c d v m) (hs : b.heap.size ≤ c.heap.size) : u.ownBlock = none ∨ u.ownBlock ≠ v.ownBlock := by
  cases hu : u.ownBlock with
  | none => exact Or.inl rfl
  | some i =>
    refine Or.inr fun e => ?_
    have h1 := (h.blk i hu).2
    have h2 := (k.blk i e.symm).1
    omega
theorem blk_ne' {TI : TypeId} {a b c d : World} {u v : Value} {l m : List Int} (h : Own TI a b u l) (k : Own TI c d v m) (hs : d.heap.size ≤ a.heap.size) : u.ownBlock = none ∨ u.ownBlock ≠ v.ownBlock := by
  cases hu : u.ownBlock with
  | none => exact Or.inl rfl
  | some i =>
    refine Or.inr fun e => ?_
    have h1 := (h.blk i hu).1
    have h2 := (k.blk i e.symm).2
    omega
end Go.Zz

/- Kept counts that are made new. -/
namespace Go.Zz
open Go.RowKit Go.Proofs
set_option maxHeartbeats 1000000
set_option maxRecDepth 20000

/-- a value of type Kept whose slices are owned, apart from each other -/
def OwnK2 (w0 w : World) (c : Value) (l : List Int) (n : Int) (m : List Int) : Prop :=
  ∃ v u, c = .agg #[v, .int .i64 n, u] ∧ Own 3 w0 w v l ∧ Own 3 w0 w u m ∧ (v.ownBlock = none ∨ v.ownBlock ≠ u.ownBlock)
theorem OwnK2.isK {w0 w : World} {c : Value} {l m : List Int} {n : Int} (h : OwnK2 w0 w c l n m) : IsK w c l n m := by
  obtain ⟨v, u, rfl, h1, h2, _⟩ := h; exact ⟨v, u, rfl, h1.ints, h2.ints⟩
theorem OwnK2.none (w0 w : World) : OwnK2 w0 w (.agg #[.slice none 0 0, .int .i64 0, .slice none 0 0]) [] 0 [] :=
  ⟨_, _, rfl, Own.nil _ _ _, Own.nil _ _ _, Or.inl rfl⟩
theorem OwnK2.mono {w0 w1 w : World} {c : Value} {l m : List Int} {n : Int} (h : OwnK2 w1 w c l n m) (hE : Ext w0 w1) : OwnK2 w0 w c l n m := by
  obtain ⟨v, u, rfl, h1, h2, h3⟩ := h; exact ⟨v, u, rfl, h1.mono hE, h2.mono hE, h3⟩
theorem OwnK2.ext {w0 w w' : World} {c : Value} {l m : List Int} {n : Int} (h : OwnK2 w0 w c l n m) (hE : Ext w w') : OwnK2 w0 w' c l n m := by
  obtain ⟨v, u, rfl, h1, h2, h3⟩ := h; exact ⟨v, u, rfl, h1.ext hE, h2.ext hE, h3⟩
def nkL (l : List Int) (a : Int) : List Int := if isSetB l a then l else []
def nkN (l : List Int) (a : Int) : Int := if isSetB l a then a else 0
theorem nk_no {l : List Int} {a : Int} (h : isSetB l a = false) : nkL l a = [] ∧ nkN l a = 0 ∧ tabF l a a = [] := by unfold nkL nkN; rw [h]; exact ⟨rfl, rfl, tabF_no (by rw [h]; rfl)⟩
theorem nk_yes {l : List Int} {a : Int} (h : isSetB l a = true) : nkL l a = l ∧ nkN l a = a := by unfold nkL nkN; rw [h]; exact ⟨rfl, rfl⟩


end Go.Zz

/- Marks in kept counts. -/
namespace Go.Zz
open Go.RowKit Go.Proofs
set_option maxHeartbeats 400000

theorem Blk.grown {w w' : World} {b : Nat} {T : TypeId} {cs : Array Value} {row : Option Nat} (h : Blk w b T cs) (hg : w.grownBy w' row) (hne : ∀ k, row = some k → k ≠ b) : Blk w' b T cs := by
  unfold Blk
  rw [hg.block b h.lt (by
    cases row with
    | none => simp
    | some k => simp; exact fun e => hne k rfl (by first | exact e | exact e.symm))]
  exact h
/-- the slices of a value of type Kept lie below a block -/
def Below2 (c : Value) (top : Nat) : Prop := ∀ v n u, c = .agg #[v, n, u] → ∀ k, (v.ownBlock = some k ∨ u.ownBlock = some k) → k < top
theorem OwnK2.below {w0 w : World} {c : Value} {l m : List Int} {n : Int} (h : OwnK2 w0 w c l n m) : Below2 c w.heap.size := by
  obtain ⟨v, u, rfl, hv, hu, -⟩ := h
  intro v' n' u' e k hk
  simp at e
  obtain ⟨rfl, rfl, rfl⟩ := e
  rcases hk with hk | hk
  · exact (hv.blk k hk).2
  · exact (hu.blk k hk).2
theorem OwnK2.kept {w0 w w' : World} {c : Value} {l m : List Int} {n : Int} {row : Option Nat} (h : OwnK2 w0 w c l n m) (hg : w.grownBy w' row) (hr : ∀ k, row = some k → k < w0.heap.size) : OwnK2 w0 w' c l n m := by
  obtain ⟨v, u, rfl, hv, hu, hd⟩ := h
  have key : ∀ {x : Value} {ll : List Int}, Own 3 w0 w x ll → Own 3 w0 w' x ll := fun {x ll} hx => hx.kept hg (by
    cases hq : x.ownBlock with
    | none => exact Or.inl rfl
    | some k => exact Or.inr fun e => by have := hr k e.symm; have := (hx.blk k hq).1; omega)
  exact ⟨v, u, rfl, key hv, key hu, hd⟩
end Go.Zz

/- Claims: equal ones, marks in what they hold. -/
namespace Go.Zz
open Go.RowKit Go.Proofs
set_option maxHeartbeats 2000000

/-- two values own no block together -/
def Apart (x y : Value) : Prop := ∀ k, x.ownBlock = some k → y.ownBlock ≠ some k
theorem Apart.symm {x y : Value} (h : Apart x y) : Apart y x := fun k hk e => h k e hk
theorem Apart.or {x y : Value} (h : Apart x y) : x.ownBlock = none ∨ x.ownBlock ≠ y.ownBlock := by
  cases hx : x.ownBlock with
  | none => exact Or.inl rfl
  | some k => exact Or.inr fun e => h k hx e.symm
theorem Apart.nil_left (y : Value) : Apart (.slice none 0 0) y := fun k hk => by cases hk
theorem Apart.nil_right (x : Value) : Apart x (.slice none 0 0) := fun k _ h => by cases h
theorem apart_of {TI : TypeId} {a b c d : World} {u v : Value} {l m : List Int} (h : Own TI a b u l) (k : Own TI c d v m) (hs : b.heap.size ≤ c.heap.size) : Apart u v := fun i hi e => by
  have h1 := (h.blk i hi).2
  have h2 := (k.blk i e).1
  omega
/-- four slices that are owned, apart from each other -/
structure Own4 (w0 w : World) (v1 v2 v3 v4 : Value) (g o t q : List Int) : Prop where
  h1 : Own 3 w0 w v1 g
  h2 : Own 3 w0 w v2 o
  h3 : Own 3 w0 w v3 t
  h4 : Own 3 w0 w v4 q
  d12 : Apart v1 v2
  d13 : Apart v1 v3
  d14 : Apart v1 v4
  d23 : Apart v2 v3
  d24 : Apart v2 v4
  d34 : Apart v3 v4
theorem Own4.ext {w0 w w' : World} {v1 v2 v3 v4 : Value} {g o t q : List Int} (h : Own4 w0 w v1 v2 v3 v4 g o t q) (hE : Ext w w') : Own4 w0 w' v1 v2 v3 v4 g o t q :=
  ⟨h.h1.ext hE, h.h2.ext hE, h.h3.ext hE, h.h4.ext hE, h.d12, h.d13, h.d14, h.d23, h.d24, h.d34⟩
theorem Own4.mono {w0 w1 w : World} {v1 v2 v3 v4 : Value} {g o t q : List Int} (h : Own4 w1 w v1 v2 v3 v4 g o t q) (hE : Ext w0 w1) : Own4 w0 w v1 v2 v3 v4 g o t q :=
  ⟨h.h1.mono hE, h.h2.mono hE, h.h3.mono hE, h.h4.mono hE, h.d12, h.d13, h.d14, h.d23, h.d24, h.d34⟩
/-- the slices of a claim read as lists -/
structure Ints4 (w : World) (v1 v2 v3 v4 : Value) (g o t q : List Int) : Prop where
  g : Ints w v1 g
  o : Ints w v2 o
  t : Ints w v3 t
  q : Ints w v4 q
theorem Ints4.ext {w w' : World} {v1 v2 v3 v4 : Value} {g o t q : List Int} (h : Ints4 w v1 v2 v3 v4 g o t q) (hE : Ext w w') : Ints4 w' v1 v2 v3 v4 g o t q :=
  ⟨h.g.ext hE, h.o.ext hE, h.t.ext hE, h.q.ext hE⟩
theorem Own4.ints {w0 w : World} {v1 v2 v3 v4 : Value} {g o t q : List Int} (h : Own4 w0 w v1 v2 v3 v4 g o t q) : Ints4 w v1 v2 v3 v4 g o t q := ⟨h.h1.ints, h.h2.ints, h.h3.ints, h.h4.ints⟩
/-- the slices lie below a block -/
def Below4 (v1 v2 v3 v4 : Value) (top : Nat) : Prop := ∀ k, (v1.ownBlock = some k ∨ v2.ownBlock = some k ∨ v3.ownBlock = some k ∨ v4.ownBlock = some k) → k < top
theorem Own4.below {w0 w : World} {v1 v2 v3 v4 : Value} {g o t q : List Int} (h : Own4 w0 w v1 v2 v3 v4 g o t q) : Below4 v1 v2 v3 v4 w.heap.size := by
  rintro k (hk | hk | hk | hk)
  · exact (h.h1.blk k hk).2
  · exact (h.h2.blk k hk).2
  · exact (h.h3.blk k hk).2
  · exact (h.h4.blk k hk).2
theorem Own.kept_low {TI : TypeId} {w0 w w' : World} {v : Value} {l : List Int} {row : Option Nat} (h : Own TI w0 w v l) (hg : w.grownBy w' row) (hr : ∀ k, row = some k → k < w0.heap.size) : Own TI w0 w' v l :=
  h.kept hg (by
    cases hq : v.ownBlock with
    | none => exact Or.inl rfl
    | some k => exact Or.inr fun e => by have := hr k e.symm; have := (h.blk k hq).1; omega)
theorem Own.kept_high {TI : TypeId} {w0 w w' : World} {v : Value} {l : List Int} {row : Option Nat} (h : Own TI w0 w v l) (hg : w.grownBy w' row) (hr : ∀ k, row = some k → v.ownBlock ≠ some k) : Own TI w0 w' v l :=
  h.kept hg (by
    cases hq : v.ownBlock with
    | none => exact Or.inl rfl
    | some k => exact Or.inr fun e => hr k e.symm hq)
theorem Own4.kept {w0 w w' : World} {v1 v2 v3 v4 : Value} {g o t q : List Int} {row : Option Nat} (h : Own4 w0 w v1 v2 v3 v4 g o t q) (hg : w.grownBy w' row) (hr : ∀ k, row = some k → k < w0.heap.size) : Own4 w0 w' v1 v2 v3 v4 g o t q :=
  ⟨h.h1.kept_low hg hr, h.h2.kept_low hg hr, h.h3.kept_low hg hr, h.h4.kept_low hg hr, h.d12, h.d13, h.d14, h.d23, h.d24, h.d34⟩
/-- a value of type Claim -/
def CV (k : Int) (v1 v2 : Value) (a b s p : Int) (v3 v4 : Value) (n : Int) : Value := .agg #[.int .i64 k, v1, v2, .int .i64 a, .int .i64 b, .int .i64 s, .int .i64 p, v3, v4, .int .i64 n]

end Go.Zz
