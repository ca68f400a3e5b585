/- Kept: the laws' helpers, EqualKept. -/
import Derived.Test.YtohdnnamjcfnnaaC4
import Derived.Test.YtohdnnamjcfnnaaC5
namespace Go.Zz
open Go.RowKit Go.Proofs
set_option maxHeartbeats 400000

/-- a value of type Kept -/
def IsK (w : World) (c : Value) (l : List Int) (n : Int) (m : List Int) : Prop := ∃ v u, c = .agg #[v, .int .i64 n, u] ∧ Ints w v l ∧ Ints w u m
theorem IsK.ext {w w' : World} {c : Value} {l m : List Int} {n : Int} (h : IsK w c l n m) (hE : Ext w w') : IsK w' c l n m := by
  obtain ⟨v, u, rfl, h1, h2⟩ := h; exact ⟨v, u, rfl, h1.ext hE, h2.ext hE⟩
def szK (l m : List Int) (left : Int) : Int := if szL l left < 0 then -1 else szL m (szL l left)
theorem szL_cases (l : List Int) {left : Int} (h : 0 ≤ left) : szL l left = -1 ∨ (0 ≤ szL l left ∧ szL l left ≤ left) := by unfold szL; split <;> omega

--%call szKept 15 ext szKept_any _ _ _ _ _ _ ({0}) ({1}) ({2})
theorem szKept_any (c : Value) (l m : List Int) (n left : Int) (w : World) (h : IsK w c l n m) (h1 : 0 ≤ left) (h2 : left ≤ 1048576) :
    Calls Try.prog 15 #[c, .int .i64 left] w fun e w' => e = .returned (.int .i64 (szK l m left)) ∧ Ext w w' := by
  obtain ⟨v, u, rfl, hv, hu⟩ := h
  have hE := Ext.refl (w.alloc (.cells #[v, .int .i64 n, u] 26))
  have hE0 := (Ext.refl w).alloc (.cells #[v, .int .i64 n, u] 26)
  have b0 := fun W (hW : Ext (w.alloc (.cells #[v, .int .i64 n, u] 26)) W) => ((Blk.new w 26 #[v, .int .i64 n, u]).ext hW).cell (i := 0) rfl
  have b2 := fun W (hW : Ext (w.alloc (.cells #[v, .int .i64 n, u] 26)) W) => ((Blk.new w 26 #[v, .int .i64 n, u]).ext hW).cell (i := 2) rfl
  have hg : ∀ W, Ext (w.alloc (.cells #[v, .int .i64 n, u] 26)) W → Ints W v l := fun W hW => hv.ext (hE0.trans hW)
  have hg2 : ∀ W, Ext (w.alloc (.cells #[v, .int .i64 n, u] 26)) W → Ints W u m := fun W hW => hu.ext (hE0.trans hW)
  clear hv hu
  rcases szL_cases l h1 with hs | ⟨hs, hs2⟩
  · have hs3 : szL l left < 0 := by omega
    have Hs := Lib.hid hs3
    clear hs
    go_enter Try.func15, Try.ntmps15
    go_wp2_with (first | (go_at_call 22; refine (szGroup_any _ _ _ _ (hg _ hE) (h1) (h2)).mono ?_; rintro e w' ⟨rfl, hE'⟩; replace hE := hE.trans hE'; clear hE'))
    go_ret
    exact ⟨ret_int (by unfold szK; rw [if_pos Hs.out]), hE0.trans hE⟩
  · rcases szL_cases m hs with ht | ⟨ht, ht2⟩
    · have ht3 : szL m (szL l left) < 0 := by omega
      have Hs := Lib.hid ht
      clear ht
      go_enter Try.func15, Try.ntmps15
      go_wp2_with (first | (go_at_call 22; refine (szGroup_any _ _ _ _ (hg _ hE) (h1) (h2)).mono ?_; rintro e w' ⟨rfl, hE'⟩; replace hE := hE.trans hE'; clear hE') | (go_at_call 95; refine (szIntS_any _ _ _ _ (hg2 _ hE) (hs) ((by omega))).mono ?_; rintro e w' ⟨rfl, rfl⟩))
      go_ret
      exact ⟨ret_int (by unfold szK; rw [if_neg (by omega)]; exact Hs.out.symm), hE0.trans hE⟩
    · go_enter Try.func15, Try.ntmps15
      go_wp2_with (first | (go_at_call 22; refine (szGroup_any _ _ _ _ (hg _ hE) (h1) (h2)).mono ?_; rintro e w' ⟨rfl, hE'⟩; replace hE := hE.trans hE'; clear hE') | (go_at_call 95; refine (szIntS_any _ _ _ _ (hg2 _ hE) (hs) ((by omega))).mono ?_; rintro e w' ⟨rfl, rfl⟩))
      go_ret
      exact ⟨ret_int (by unfold szK; rw [if_neg (by omega)]), hE0.trans hE⟩

def OwnK (w0 w : World) (c : Value) (l : List Int) (n : Int) (m : List Int) : Prop := ∃ v u, c = .agg #[v, .int .i64 n, u] ∧ Own 3 w0 w v l ∧ Own 3 w0 w u m
theorem OwnK.isK {w0 w : World} {c : Value} {l m : List Int} {n : Int} (h : OwnK w0 w c l n m) : IsK w c l n m := by
  obtain ⟨v, u, rfl, h1, h2⟩ := h; exact ⟨v, u, rfl, h1.ints, h2.ints⟩
--%call toKept 17 own toKept_any _ _ _ _ _ ({0})
theorem toKept_any (c : Value) (l m : List Int) (n : Int) (w : World) (h : IsK w c l n m) :
    Calls Try.prog 17 #[c] w fun e w' => ∃ c', e = .returned c' ∧ OwnK w w' c' l n m ∧ Ext w w' := by
  obtain ⟨v, u, rfl, hv, hu⟩ := h
  obtain ⟨wb, hwb⟩ : ∃ wb, wb = ((w.alloc (.cells #[v, .int .i64 n, u] 26)).alloc (.cells #[.slice none 0 0, .int .i64 0, .slice none 0 0] 30)).alloc (.cells #[.slice none 0 0, .int .i64 0, .slice none 0 0] 30) := ⟨_, rfl⟩
  have e0 : Ext w wb := by rw [hwb]; exact (((Ext.refl _).alloc _).alloc _).alloc _
  have sb : wb.heap.size = w.heap.size + 3 := by rw [hwb]; simp
  have B0 : Blk wb w.heap.size 26 #[v, .int .i64 n, u] := by rw [hwb]; exact ((Blk.new _ _ _).alloc _).alloc _
  have B1 : Blk wb (w.heap.size + 1) 30 #[.slice none 0 0, .int .i64 0, .slice none 0 0] := by rw [hwb]; exact (by simpa using Blk.new (w.alloc (.cells #[v, .int .i64 n, u] 26)) 30 #[.slice none 0 0, .int .i64 0, .slice none 0 0] : Blk _ (w.heap.size + 1) _ _).alloc _
  have B2 : Blk wb (w.heap.size + 1 + 1) 30 #[.slice none 0 0, .int .i64 0, .slice none 0 0] := by rw [hwb]; simpa using Blk.new ((w.alloc (.cells #[v, .int .i64 n, u] 26)).alloc (.cells #[.slice none 0 0, .int .i64 0, .slice none 0 0] 30)) 30 #[.slice none 0 0, .int .i64 0, .slice none 0 0]
  have hv' := hv.ext e0
  have hu' := hu.ext e0
  have Hwb := Lib.hid hwb
  have Sb := Lib.hid sb
  clear hwb sb hv hu'
  go_enter Try.func17, Try.ntmps17
  go_wp2_with fail
  rw [← Hwb.out]
  refine (toGroup_any _ _ _ hv').mono ?_
  rintro e w1 ⟨v1, rfl, hO1, hE1⟩
  obtain ⟨ao1, k1, rfl, -⟩ := hO1.shape
  have p0 := (B2.ext hE1).cell (i := 0) rfl
  have p1 := (B2.ext hE1).free 0
  have q0 := (B0.ext hE1).cell (i := 1) rfl
  have q1 := (B2.ext hE1).cell (i := 1) rfl
  have q2 := (B2.ext hE1).free 1
  have r0 := (B0.ext hE1).cell (i := 2) rfl
  go_wp2_with fail
  have W1 : ∀ x y, Ext w ((w1.setCell ⟨w.heap.size + 1 + 1, 0, none⟩ x).setCell ⟨w.heap.size + 1 + 1, 1, none⟩ y) := fun x y => ((e0.trans hE1).setCell (by simp [Nat.add_assoc]) x).setCell (by simp [Nat.add_assoc]) y
  refine (toIntS_any _ _ _ (hu.ext (W1 _ _))).mono ?_
  rintro e w2 ⟨v2, rfl, hO2, hE2⟩
  obtain ⟨ao2, k2, rfl, -⟩ := hO2.shape
  have B2' := ((((B2.ext hE1).set 0 _).set 1 _).ext hE2)
  have B1' := ((((B1.ext hE1).other (by simp) _).other (by simp) _).ext hE2)
  have hO1' := ((hO1.setCell_below (by rw [Sb.out]; simp) _).setCell_below (by rw [Sb.out]; simp) _).ext hE2
  have p0 := B2'.cell (i := 0) rfl
  have p1 := B2'.cell (i := 1) rfl
  have p2 := B2'.cell (i := 2) rfl
  have f2 := B2'.free 2
  have s0 := B1'.cell (i := 0) rfl
  have s1 := B1'.cell (i := 1) rfl
  have s2 := B1'.cell (i := 2) rfl
  have g0 := B1'.free 0
  have g1 := B1'.free 1
  have g2 := B1'.free 2
  have hO2' := (hO2.mono (W1 _ _))
  have hE2' := (W1 _ _).trans hE2
  simp at p0 p1 p2 s0 s1 s2
  have hW1 := W1 (.slice ao1 l.length k1) (.int .i64 n)
  clear B2' B1' hE2 W1 B0 B1 B2
  go_wp2_with fail
  refine bodyPost_ret (v := .agg #[.slice ao1 l.length k1, .int .i64 n, .slice ao2 m.length k2]) (by simp [results, Try.results17, go_sem, s0, s1, s2]) rfl ⟨_, rfl, ⟨_, _, rfl, ?_, ?_⟩, ?_⟩
  · exact ((((hO1'.setCell_below (by rw [Sb.out]; simp) _).setCell_below (by rw [Sb.out]; simp) _).setCell_below (by rw [Sb.out]; simp) _).setCell_below (by rw [Sb.out]; simp) _).mono e0
  · have hz := hE1.size
    rw [Sb.out] at hz
    exact ((((hO2.setCell_below (by simp; omega) _).setCell_below (by simp; omega) _).setCell_below (by simp; omega) _).setCell_below (by simp; omega) _).mono hW1
  · exact (((hE2'.setCell (by simp [Nat.add_assoc]) _).setCell (by simp) _).setCell (by simp) _).setCell (by simp) _

def eqK (l m : List Int) (n : Int) (l' m' : List Int) (n' : Int) : Bool := decide (l = l' ∧ n = n' ∧ m = m')
--%call eqKept 19 ext eqKept_any _ _ _ _ _ _ _ _ _ ({0}) ({1})
theorem eqKept_any (c d : Value) (l m : List Int) (n : Int) (l' m' : List Int) (n' : Int) (w : World) (h : IsK w c l n m) (k : IsK w d l' n' m') :
    Calls Try.prog 19 #[c, d] w fun e w' => e = .returned (.bool (eqK l m n l' m' n')) ∧ Ext w w' := by
  obtain ⟨v, u, rfl, hv, hu⟩ := h
  obtain ⟨v', u', rfl, hv', hu'⟩ := k
  obtain ⟨wb, hwb⟩ : ∃ wb, wb = (w.alloc (.cells #[v, .int .i64 n, u] 30)).alloc (.cells #[v', .int .i64 n', u'] 30) := ⟨_, rfl⟩
  have e0 : Ext w wb := by rw [hwb]; exact ((Ext.refl _).alloc _).alloc _
  have B0 : Blk wb w.heap.size 30 #[v, .int .i64 n, u] := by rw [hwb]; exact (Blk.new _ _ _).alloc _
  have B1 : Blk wb (w.heap.size + 1) 30 #[v', .int .i64 n', u'] := by rw [hwb]; simpa using Blk.new (w.alloc (.cells #[v, .int .i64 n, u] 30)) 30 #[v', .int .i64 n', u']
  have a1 := fun W (hW : Ext wb W) => (B0.ext hW).cell (i := 1) (v := .int .i64 n) rfl
  have a2 := fun W (hW : Ext wb W) => (B0.ext hW).cell (i := 2) (v := u) rfl
  have b1 := fun W (hW : Ext wb W) => (B1.ext hW).cell (i := 1) (v := .int .i64 n') rfl
  have b2 := fun W (hW : Ext wb W) => (B1.ext hW).cell (i := 2) (v := u') rfl
  have i1 := hv.ext e0
  have i2 := hv'.ext e0
  have i3 := hu.ext e0
  have i4 := hu'.ext e0
  have Hwb := Lib.hid hwb
  clear hwb hv hu hv' hu' B0 B1
  by_cases c1 : l = l'
  · have d1 : decide (l = l') = true := by simp [c1]
    have C1 := Lib.hid c1
    by_cases c2 : n = n'
    · have d2 : (n == n') = true := by simp [c2]
      have d2' : (n != n') = false := by simp [c2]
      have C2 := Lib.hid c2
      by_cases c3 : m = m'
      · have d3 : decide (m = m') = true := by simp [c3]
        have C3 := Lib.hid c3
        clear c1 c2 c3
        go_enter Try.func19, Try.ntmps19
        go_wp2_with fail
        rw [← Hwb.out]
        refine (eqGroup_any _ _ _ _ _ i1 i2).mono ?_
        rintro e w1 ⟨rfl, hE⟩
        go_wp2_with fail
        refine (eqIntS_any _ _ _ _ _ (i3.ext hE) (i4.ext hE)).mono ?_
        rintro e w2 ⟨rfl, hE2⟩
        go_wp2_with fail
        go_ret
        exact ⟨ret_bool (by unfold eqK; symm; rw [decide_eq_true_iff]; exact ⟨C1.out, C2.out, C3.out⟩), e0.trans (hE.trans hE2)⟩
      · have d3 : decide (m = m') = false := by simp [c3]
        have C3 := Lib.hid c3
        clear c1 c2 c3
        go_enter Try.func19, Try.ntmps19
        go_wp2_with fail
        rw [← Hwb.out]
        refine (eqGroup_any _ _ _ _ _ i1 i2).mono ?_
        rintro e w1 ⟨rfl, hE⟩
        go_wp2_with fail
        refine (eqIntS_any _ _ _ _ _ (i3.ext hE) (i4.ext hE)).mono ?_
        rintro e w2 ⟨rfl, hE2⟩
        go_wp2_with fail
        go_ret
        exact ⟨ret_bool (by unfold eqK; symm; rw [decide_eq_false_iff_not]; exact fun h => C3.out h.2.2), e0.trans (hE.trans hE2)⟩
    · have d2 : (n == n') = false := by simp [c2]
      have d2' : (n != n') = true := by simp [c2]
      have C2 := Lib.hid c2
      clear c1 c2
      go_enter Try.func19, Try.ntmps19
      go_wp2_with fail
      rw [← Hwb.out]
      refine (eqGroup_any _ _ _ _ _ i1 i2).mono ?_
      rintro e w1 ⟨rfl, hE⟩
      go_wp2_with fail
      go_ret
      exact ⟨ret_bool (by unfold eqK; symm; rw [decide_eq_false_iff_not]; exact fun h => C2.out h.2.1), e0.trans hE⟩
  · have d1 : decide (l = l') = false := by simp [c1]
    have C1 := Lib.hid c1
    clear c1
    go_enter Try.func19, Try.ntmps19
    go_wp2_with fail
    rw [← Hwb.out]
    refine (eqGroup_any _ _ _ _ _ i1 i2).mono ?_
    rintro e w1 ⟨rfl, hE⟩
    go_wp2_with fail
    go_ret
    exact ⟨ret_bool (by unfold eqK; symm; rw [decide_eq_false_iff_not]; exact fun h => C1.out h.1), e0.trans hE⟩
--%call EqualKept 69 ext EqualKept_any _ _ _ _ _ _ _ _ _ ({0}) ({1})
theorem EqualKept_any (c d : Value) (l m : List Int) (n : Int) (l' m' : List Int) (n' : Int) (w : World) (h : IsK w c l n m) (k : IsK w d l' n' m') :
    Calls Try.prog 69 #[c, d] w fun e w' => e = .returned (.bool (eqK l m n l' m' n')) ∧ Ext w w' := by
  obtain ⟨v, u, rfl, hv, hu⟩ := h
  obtain ⟨v', u', rfl, hv', hu'⟩ := k
  obtain ⟨wb, hwb⟩ : ∃ wb, wb = (w.alloc (.cells #[v, .int .i64 n, u] 30)).alloc (.cells #[v', .int .i64 n', u'] 30) := ⟨_, rfl⟩
  have e0 : Ext w wb := by rw [hwb]; exact ((Ext.refl _).alloc _).alloc _
  have B0 : Blk wb w.heap.size 30 #[v, .int .i64 n, u] := by rw [hwb]; exact (Blk.new _ _ _).alloc _
  have B1 : Blk wb (w.heap.size + 1) 30 #[v', .int .i64 n', u'] := by rw [hwb]; simpa using Blk.new (w.alloc (.cells #[v, .int .i64 n, u] 30)) 30 #[v', .int .i64 n', u']
  have a1 := fun W (hW : Ext wb W) => (B0.ext hW).cell (i := 1) (v := .int .i64 n) rfl
  have a2 := fun W (hW : Ext wb W) => (B0.ext hW).cell (i := 2) (v := u) rfl
  have b1 := fun W (hW : Ext wb W) => (B1.ext hW).cell (i := 1) (v := .int .i64 n') rfl
  have b2 := fun W (hW : Ext wb W) => (B1.ext hW).cell (i := 2) (v := u') rfl
  have i1 := hv.ext e0
  have i2 := hv'.ext e0
  have i3 := hu.ext e0
  have i4 := hu'.ext e0
  have Hwb := Lib.hid hwb
  clear hwb hv hu hv' hu' B0 B1
  by_cases c1 : l = l'
  · have d1 : decide (l = l') = true := by simp [c1]
    have C1 := Lib.hid c1
    by_cases c2 : n = n'
    · have d2 : (n == n') = true := by simp [c2]
      have d2' : (n != n') = false := by simp [c2]
      have C2 := Lib.hid c2
      by_cases c3 : m = m'
      · have d3 : decide (m = m') = true := by simp [c3]
        have C3 := Lib.hid c3
        clear c1 c2 c3
        go_enter Try.func69, Try.ntmps69
        go_wp2_with fail
        rw [← Hwb.out]
        refine (EqualGroups_any _ _ _ _ _ i1 i2).mono ?_
        rintro e w1 ⟨rfl, hE⟩
        go_wp2_with fail
        refine (slicesEqual_any _ _ _ _ _ (i3.ext hE) (i4.ext hE)).mono ?_
        rintro e w2 ⟨rfl, hE2⟩
        go_wp2_with fail
        go_ret
        exact ⟨ret_bool (by unfold eqK; symm; rw [decide_eq_true_iff]; exact ⟨C1.out, C2.out, C3.out⟩), e0.trans (hE.trans hE2)⟩
      · have d3 : decide (m = m') = false := by simp [c3]
        have C3 := Lib.hid c3
        clear c1 c2 c3
        go_enter Try.func69, Try.ntmps69
        go_wp2_with fail
        rw [← Hwb.out]
        refine (EqualGroups_any _ _ _ _ _ i1 i2).mono ?_
        rintro e w1 ⟨rfl, hE⟩
        go_wp2_with fail
        refine (slicesEqual_any _ _ _ _ _ (i3.ext hE) (i4.ext hE)).mono ?_
        rintro e w2 ⟨rfl, hE2⟩
        go_wp2_with fail
        go_ret
        exact ⟨ret_bool (by unfold eqK; symm; rw [decide_eq_false_iff_not]; exact fun h => C3.out h.2.2), e0.trans (hE.trans hE2)⟩
    · have d2 : (n == n') = false := by simp [c2]
      have d2' : (n != n') = true := by simp [c2]
      have C2 := Lib.hid c2
      clear c1 c2
      go_enter Try.func69, Try.ntmps69
      go_wp2_with fail
      rw [← Hwb.out]
      refine (EqualGroups_any _ _ _ _ _ i1 i2).mono ?_
      rintro e w1 ⟨rfl, hE⟩
      go_wp2_with fail
      go_ret
      exact ⟨ret_bool (by unfold eqK; symm; rw [decide_eq_false_iff_not]; exact fun h => C2.out h.2.1), e0.trans hE⟩
  · have d1 : decide (l = l') = false := by simp [c1]
    have C1 := Lib.hid c1
    clear c1
    go_enter Try.func69, Try.ntmps69
    go_wp2_with fail
    rw [← Hwb.out]
    refine (EqualGroups_any _ _ _ _ _ i1 i2).mono ?_
    rintro e w1 ⟨rfl, hE⟩
    go_wp2_with fail
    go_ret
    exact ⟨ret_bool (by unfold eqK; symm; rw [decide_eq_false_iff_not]; exact fun h => C1.out h.1), e0.trans hE⟩
--%call sEqualKept 54 ext sEqualKept_any _ _ _ _ _ _ _ _ _ ({0}) ({1})
theorem sEqualKept_any (c d : Value) (l m : List Int) (n : Int) (l' m' : List Int) (n' : Int) (w : World) (h : IsK w c l n m) (k : IsK w d l' n' m') :
    Calls Try.prog 54 #[c, d] w fun e w' => e = .returned (.bool (eqK l m n l' m' n')) ∧ Ext w w' := by
  obtain ⟨v, u, rfl, hv, hu⟩ := h
  obtain ⟨v', u', rfl, hv', hu'⟩ := k
  obtain ⟨wb, hwb⟩ : ∃ wb, wb = (w.alloc (.cells #[v, .int .i64 n, u] 30)).alloc (.cells #[v', .int .i64 n', u'] 30) := ⟨_, rfl⟩
  have e0 : Ext w wb := by rw [hwb]; exact ((Ext.refl _).alloc _).alloc _
  have B0 : Blk wb w.heap.size 30 #[v, .int .i64 n, u] := by rw [hwb]; exact (Blk.new _ _ _).alloc _
  have B1 : Blk wb (w.heap.size + 1) 30 #[v', .int .i64 n', u'] := by rw [hwb]; simpa using Blk.new (w.alloc (.cells #[v, .int .i64 n, u] 30)) 30 #[v', .int .i64 n', u']
  have a1 := fun W (hW : Ext wb W) => (B0.ext hW).cell (i := 1) (v := .int .i64 n) rfl
  have a2 := fun W (hW : Ext wb W) => (B0.ext hW).cell (i := 2) (v := u) rfl
  have b1 := fun W (hW : Ext wb W) => (B1.ext hW).cell (i := 1) (v := .int .i64 n') rfl
  have b2 := fun W (hW : Ext wb W) => (B1.ext hW).cell (i := 2) (v := u') rfl
  have i1 := hv.ext e0
  have i2 := hv'.ext e0
  have i3 := hu.ext e0
  have i4 := hu'.ext e0
  have Hwb := Lib.hid hwb
  clear hwb hv hu hv' hu' B0 B1
  by_cases c1 : l = l'
  · have d1 : decide (l = l') = true := by simp [c1]
    have C1 := Lib.hid c1
    by_cases c2 : n = n'
    · have d2 : (n == n') = true := by simp [c2]
      have d2' : (n != n') = false := by simp [c2]
      have C2 := Lib.hid c2
      by_cases c3 : m = m'
      · have d3 : decide (m = m') = true := by simp [c3]
        have C3 := Lib.hid c3
        clear c1 c2 c3
        go_enter Try.func54, Try.ntmps54
        go_wp2_with fail
        rw [← Hwb.out]
        refine (sEqualGroups_any _ _ _ _ _ i1 i2).mono ?_
        rintro e w1 ⟨rfl, hE⟩
        go_wp2_with fail
        refine (l30Same_any _ _ _ _ _ (i3.ext hE) (i4.ext hE)).mono ?_
        rintro e w2 ⟨rfl, hE2⟩
        go_wp2_with fail
        go_ret
        exact ⟨ret_bool (by unfold eqK; symm; rw [decide_eq_true_iff]; exact ⟨C1.out, C2.out, C3.out⟩), e0.trans (hE.trans hE2)⟩
      · have d3 : decide (m = m') = false := by simp [c3]
        have C3 := Lib.hid c3
        clear c1 c2 c3
        go_enter Try.func54, Try.ntmps54
        go_wp2_with fail
        rw [← Hwb.out]
        refine (sEqualGroups_any _ _ _ _ _ i1 i2).mono ?_
        rintro e w1 ⟨rfl, hE⟩
        go_wp2_with fail
        refine (l30Same_any _ _ _ _ _ (i3.ext hE) (i4.ext hE)).mono ?_
        rintro e w2 ⟨rfl, hE2⟩
        go_wp2_with fail
        go_ret
        exact ⟨ret_bool (by unfold eqK; symm; rw [decide_eq_false_iff_not]; exact fun h => C3.out h.2.2), e0.trans (hE.trans hE2)⟩
    · have d2 : (n == n') = false := by simp [c2]
      have d2' : (n != n') = true := by simp [c2]
      have C2 := Lib.hid c2
      clear c1 c2
      go_enter Try.func54, Try.ntmps54
      go_wp2_with fail
      rw [← Hwb.out]
      refine (sEqualGroups_any _ _ _ _ _ i1 i2).mono ?_
      rintro e w1 ⟨rfl, hE⟩
      go_wp2_with fail
      go_ret
      exact ⟨ret_bool (by unfold eqK; symm; rw [decide_eq_false_iff_not]; exact fun h => C2.out h.2.1), e0.trans hE⟩
  · have d1 : decide (l = l') = false := by simp [c1]
    have C1 := Lib.hid c1
    clear c1
    go_enter Try.func54, Try.ntmps54
    go_wp2_with fail
    rw [← Hwb.out]
    refine (sEqualGroups_any _ _ _ _ _ i1 i2).mono ?_
    rintro e w1 ⟨rfl, hE⟩
    go_wp2_with fail
    go_ret
    exact ⟨ret_bool (by unfold eqK; symm; rw [decide_eq_false_iff_not]; exact fun h => C1.out h.1), e0.trans hE⟩
end Go.Zz
