/- Kept: the laws' helpers, EqualKept. -/
import Derived.Test.YtgjomoedgmofbaaC4
import Derived.Test.YtgjomoedgmofbaaC5
namespace Go.Zz
open Go.RowKit Go.Proofs
set_option maxHeartbeats 400000

/-- a value of type Kept -/
def IsK (w : World) (c : Value) (l : List Int) (n : Int) (m : List Int) : Prop := ∃ v u, c = .agg #[v, .int .i64 n, u] ∧ Ints w v l ∧ Ints w u m
theorem IsK.ext {w w' : World} {c : Value} {l m : List Int} {n : Int} (h : IsK w c l n m) (hE : Ext w w') : IsK w' c l n m := by
  obtain ⟨v, u, rfl, h1, h2⟩ := h; exact ⟨v, u, rfl, h1.ext hE, h2.ext hE⟩
def szK (l m : List Int) (left : Int) : Int := if szL l left < 0 then -1 else szL m (szL l left)
theorem szL_cases (l : List Int) {left : Int} (h : 0 ≤ left) : szL l left = -1 ∨ (0 ≤ szL l left ∧ szL l left ≤ left) := by unfold szL; split <;> omega


def eqK (l m : List Int) (n : Int) (l' m' : List Int) (n' : Int) : Bool := decide (l = l' ∧ n = n' ∧ m = m')
--%call EqualKept 54 ext EqualKept_any _ _ _ _ _ _ _ _ _ ({0}) ({1})
theorem EqualKept_any (c d : Value) (l m : List Int) (n : Int) (l' m' : List Int) (n' : Int) (w : World) (h : IsK w c l n m) (k : IsK w d l' n' m') :
    Calls Try.prog 54 #[c, d] w fun e w' => e = .returned (.bool (eqK l m n l' m' n')) ∧ Ext w w' := by
  obtain ⟨v, u, rfl, hv, hu⟩ := h
  obtain ⟨v', u', rfl, hv', hu'⟩ := k
  obtain ⟨wb, hwb⟩ : ∃ wb, wb = (w.alloc (.cells #[v, .int .i64 n, u] 48)).alloc (.cells #[v', .int .i64 n', u'] 48) := ⟨_, rfl⟩
  have e0 : Ext w wb := by rw [hwb]; exact ((Ext.refl _).alloc _).alloc _
  have B0 : Blk wb w.heap.size 48 #[v, .int .i64 n, u] := by rw [hwb]; exact (Blk.new _ _ _).alloc _
  have B1 : Blk wb (w.heap.size + 1) 48 #[v', .int .i64 n', u'] := by rw [hwb]; simpa using Blk.new (w.alloc (.cells #[v, .int .i64 n, u] 48)) 48 #[v', .int .i64 n', u']
  have a1 := fun W (hW : Ext wb W) => (B0.ext hW).cell (i := 1) (v := .int .i64 n) rfl
  have a2 := fun W (hW : Ext wb W) => (B0.ext hW).cell (i := 2) (v := u) rfl
  have b1 := fun W (hW : Ext wb W) => (B1.ext hW).cell (i := 1) (v := .int .i64 n') rfl
  have b2 := fun W (hW : Ext wb W) => (B1.ext hW).cell (i := 2) (v := u') rfl
  have i1 := hv.ext e0
  have i2 := hv'.ext e0
  have i3 := hu.ext e0
  have i4 := hu'.ext e0
  have Hwb := Lib.hid hwb
  clear hwb hv hu hv' hu' B0 B1
  by_cases c1 : l = l'
  · have d1 : decide (l = l') = true := by simp [c1]
    have C1 := Lib.hid c1
    by_cases c2 : n = n'
    · have d2 : (n == n') = true := by simp [c2]
      have d2' : (n != n') = false := by simp [c2]
      have C2 := Lib.hid c2
      by_cases c3 : m = m'
      · have d3 : decide (m = m') = true := by simp [c3]
        have C3 := Lib.hid c3
        clear c1 c2 c3
        go_enter Try.func54, Try.ntmps54
        go_wp2_with fail
        rw [← Hwb.out]
        refine (EqualGroups_any _ _ _ _ _ i1 i2).mono ?_
        rintro e w1 ⟨rfl, hE⟩
        go_wp2_with fail
        refine (slicesEqual_any _ _ _ _ _ (i3.ext hE) (i4.ext hE)).mono ?_
        rintro e w2 ⟨rfl, hE2⟩
        go_wp2_with fail
        go_ret
        exact ⟨ret_bool (by unfold eqK; symm; rw [decide_eq_true_iff]; exact ⟨C1.out, C2.out, C3.out⟩), e0.trans (hE.trans hE2)⟩
      · have d3 : decide (m = m') = false := by simp [c3]
        have C3 := Lib.hid c3
        clear c1 c2 c3
        go_enter Try.func54, Try.ntmps54
        go_wp2_with fail
        rw [← Hwb.out]
        refine (EqualGroups_any _ _ _ _ _ i1 i2).mono ?_
        rintro e w1 ⟨rfl, hE⟩
        go_wp2_with fail
        refine (slicesEqual_any _ _ _ _ _ (i3.ext hE) (i4.ext hE)).mono ?_
        rintro e w2 ⟨rfl, hE2⟩
        go_wp2_with fail
        go_ret
        exact ⟨ret_bool (by unfold eqK; symm; rw [decide_eq_false_iff_not]; exact fun h => C3.out h.2.2), e0.trans (hE.trans hE2)⟩
    · have d2 : (n == n') = false := by simp [c2]
      have d2' : (n != n') = true := by simp [c2]
      have C2 := Lib.hid c2
      clear c1 c2
      go_enter Try.func54, Try.ntmps54
      go_wp2_with fail
      rw [← Hwb.out]
      refine (EqualGroups_any _ _ _ _ _ i1 i2).mono ?_
      rintro e w1 ⟨rfl, hE⟩
      go_wp2_with fail
      go_ret
      exact ⟨ret_bool (by unfold eqK; symm; rw [decide_eq_false_iff_not]; exact fun h => C2.out h.2.1), e0.trans hE⟩
  · have d1 : decide (l = l') = false := by simp [c1]
    have C1 := Lib.hid c1
    clear c1
    go_enter Try.func54, Try.ntmps54
    go_wp2_with fail
    rw [← Hwb.out]
    refine (EqualGroups_any _ _ _ _ _ i1 i2).mono ?_
    rintro e w1 ⟨rfl, hE⟩
    go_wp2_with fail
    go_ret
    exact ⟨ret_bool (by unfold eqK; symm; rw [decide_eq_false_iff_not]; exact fun h => C1.out h.1), e0.trans hE⟩
--%call sEqualKept 38 ext sEqualKept_any _ _ _ _ _ _ _ _ _ ({0}) ({1})
theorem sEqualKept_any (c d : Value) (l m : List Int) (n : Int) (l' m' : List Int) (n' : Int) (w : World) (h : IsK w c l n m) (k : IsK w d l' n' m') :
    Calls Try.prog 38 #[c, d] w fun e w' => e = .returned (.bool (eqK l m n l' m' n')) ∧ Ext w w' := by
  obtain ⟨v, u, rfl, hv, hu⟩ := h
  obtain ⟨v', u', rfl, hv', hu'⟩ := k
  obtain ⟨wb, hwb⟩ : ∃ wb, wb = (w.alloc (.cells #[v, .int .i64 n, u] 48)).alloc (.cells #[v', .int .i64 n', u'] 48) := ⟨_, rfl⟩
  have e0 : Ext w wb := by rw [hwb]; exact ((Ext.refl _).alloc _).alloc _
  have B0 : Blk wb w.heap.size 48 #[v, .int .i64 n, u] := by rw [hwb]; exact (Blk.new _ _ _).alloc _
  have B1 : Blk wb (w.heap.size + 1) 48 #[v', .int .i64 n', u'] := by rw [hwb]; simpa using Blk.new (w.alloc (.cells #[v, .int .i64 n, u] 48)) 48 #[v', .int .i64 n', u']
  have a1 := fun W (hW : Ext wb W) => (B0.ext hW).cell (i := 1) (v := .int .i64 n) rfl
  have a2 := fun W (hW : Ext wb W) => (B0.ext hW).cell (i := 2) (v := u) rfl
  have b1 := fun W (hW : Ext wb W) => (B1.ext hW).cell (i := 1) (v := .int .i64 n') rfl
  have b2 := fun W (hW : Ext wb W) => (B1.ext hW).cell (i := 2) (v := u') rfl
  have i1 := hv.ext e0
  have i2 := hv'.ext e0
  have i3 := hu.ext e0
  have i4 := hu'.ext e0
  have Hwb := Lib.hid hwb
  clear hwb hv hu hv' hu' B0 B1
  by_cases c1 : l = l'
  · have d1 : decide (l = l') = true := by simp [c1]
    have C1 := Lib.hid c1
    by_cases c2 : n = n'
    · have d2 : (n == n') = true := by simp [c2]
      have d2' : (n != n') = false := by simp [c2]
      have C2 := Lib.hid c2
      by_cases c3 : m = m'
      · have d3 : decide (m = m') = true := by simp [c3]
        have C3 := Lib.hid c3
        clear c1 c2 c3
        go_enter Try.func38, Try.ntmps38
        go_wp2_with fail
        rw [← Hwb.out]
        refine (sEqualGroups_any _ _ _ _ _ i1 i2).mono ?_
        rintro e w1 ⟨rfl, hE⟩
        go_wp2_with fail
        refine (l30Same_any _ _ _ _ _ (i3.ext hE) (i4.ext hE)).mono ?_
        rintro e w2 ⟨rfl, hE2⟩
        go_wp2_with fail
        go_ret
        exact ⟨ret_bool (by unfold eqK; symm; rw [decide_eq_true_iff]; exact ⟨C1.out, C2.out, C3.out⟩), e0.trans (hE.trans hE2)⟩
      · have d3 : decide (m = m') = false := by simp [c3]
        have C3 := Lib.hid c3
        clear c1 c2 c3
        go_enter Try.func38, Try.ntmps38
        go_wp2_with fail
        rw [← Hwb.out]
        refine (sEqualGroups_any _ _ _ _ _ i1 i2).mono ?_
        rintro e w1 ⟨rfl, hE⟩
        go_wp2_with fail
        refine (l30Same_any _ _ _ _ _ (i3.ext hE) (i4.ext hE)).mono ?_
        rintro e w2 ⟨rfl, hE2⟩
        go_wp2_with fail
        go_ret
        exact ⟨ret_bool (by unfold eqK; symm; rw [decide_eq_false_iff_not]; exact fun h => C3.out h.2.2), e0.trans (hE.trans hE2)⟩
    · have d2 : (n == n') = false := by simp [c2]
      have d2' : (n != n') = true := by simp [c2]
      have C2 := Lib.hid c2
      clear c1 c2
      go_enter Try.func38, Try.ntmps38
      go_wp2_with fail
      rw [← Hwb.out]
      refine (sEqualGroups_any _ _ _ _ _ i1 i2).mono ?_
      rintro e w1 ⟨rfl, hE⟩
      go_wp2_with fail
      go_ret
      exact ⟨ret_bool (by unfold eqK; symm; rw [decide_eq_false_iff_not]; exact fun h => C2.out h.2.1), e0.trans hE⟩
  · have d1 : decide (l = l') = false := by simp [c1]
    have C1 := Lib.hid c1
    clear c1
    go_enter Try.func38, Try.ntmps38
    go_wp2_with fail
    rw [← Hwb.out]
    refine (sEqualGroups_any _ _ _ _ _ i1 i2).mono ?_
    rintro e w1 ⟨rfl, hE⟩
    go_wp2_with fail
    go_ret
    exact ⟨ret_bool (by unfold eqK; symm; rw [decide_eq_false_iff_not]; exact fun h => C1.out h.1), e0.trans hE⟩
end Go.Zz
