/- Kept counts that the laws copy: the copy's slices lie apart. -/
import Derived.Test.YtgjllfekhfdhaaaC35
namespace Go.Zz
open Go.RowKit Go.Proofs
set_option maxHeartbeats 1000000

theorem toKept2_any (c : Value) (l m : List Int) (n : Int) (w : World) (h : IsK w c l n m) :
    Calls Try.prog 51 #[c] w fun e w' => ∃ c', e = .returned c' ∧ OwnK2 w w' c' l n m ∧ Ext w w' := by
  obtain ⟨v, u, rfl, hv, hu⟩ := h
  obtain ⟨wb, hwb⟩ : ∃ wb, wb = ((w.alloc (.cells #[v, .int .i64 n, u] 62)).alloc (.cells #[.slice none 0 0, .int .i64 0, .slice none 0 0] 65)).alloc (.cells #[.slice none 0 0, .int .i64 0, .slice none 0 0] 65) := ⟨_, rfl⟩
  have e0 : Ext w wb := by rw [hwb]; exact (((Ext.refl _).alloc _).alloc _).alloc _
  have sb : wb.heap.size = w.heap.size + 3 := by rw [hwb]; simp
  have B0 : Blk wb w.heap.size 62 #[v, .int .i64 n, u] := by rw [hwb]; exact ((Blk.new _ _ _).alloc _).alloc _
  have B1 : Blk wb (w.heap.size + 1) 65 #[.slice none 0 0, .int .i64 0, .slice none 0 0] := by rw [hwb]; exact (by simpa using Blk.new (w.alloc (.cells #[v, .int .i64 n, u] 62)) 65 #[.slice none 0 0, .int .i64 0, .slice none 0 0] : Blk _ (w.heap.size + 1) _ _).alloc _
  have B2 : Blk wb (w.heap.size + 1 + 1) 65 #[.slice none 0 0, .int .i64 0, .slice none 0 0] := by rw [hwb]; simpa using Blk.new ((w.alloc (.cells #[v, .int .i64 n, u] 62)).alloc (.cells #[.slice none 0 0, .int .i64 0, .slice none 0 0] 65)) 65 #[.slice none 0 0, .int .i64 0, .slice none 0 0]
  have hv' := hv.ext e0
  have hu' := hu.ext e0
  have Hwb := Lib.hid hwb
  have Sb := Lib.hid sb
  clear hwb sb hv hu'
  go_enter Try.func51, Try.ntmps51
  go_wp2_with fail
  rw [← Hwb.out]
  refine (toGroup_any _ _ _ hv').mono ?_
  rintro e w1 ⟨v1, rfl, hO1, hE1⟩
  obtain ⟨ao1, k1, rfl, -⟩ := hO1.shape
  have p0 := (B2.ext hE1).cell (i := 0) rfl
  have p1 := (B2.ext hE1).free 0
  have q0 := (B0.ext hE1).cell (i := 1) rfl
  have q1 := (B2.ext hE1).cell (i := 1) rfl
  have q2 := (B2.ext hE1).free 1
  have r0 := (B0.ext hE1).cell (i := 2) rfl
  go_wp2_with fail
  have W1 : ∀ x y, Ext w ((w1.setCell ⟨w.heap.size + 1 + 1, 0, none⟩ x).setCell ⟨w.heap.size + 1 + 1, 1, none⟩ y) := fun x y => ((e0.trans hE1).setCell (by simp [Nat.add_assoc]) x).setCell (by simp [Nat.add_assoc]) y
  refine (toIntS_any _ _ _ (hu.ext (W1 _ _))).mono ?_
  rintro e w2 ⟨v2, rfl, hO2, hE2⟩
  obtain ⟨ao2, k2, rfl, -⟩ := hO2.shape
  have hap := blk_ne hO1 hO2 (by simp)
  have B2' := ((((B2.ext hE1).set 0 _).set 1 _).ext hE2)
  have B1' := ((((B1.ext hE1).other (by simp) _).other (by simp) _).ext hE2)
  have hO1' := ((hO1.setCell_below (by rw [Sb.out]; simp) _).setCell_below (by rw [Sb.out]; simp) _).ext hE2
  have p0 := B2'.cell (i := 0) rfl
  have p1 := B2'.cell (i := 1) rfl
  have p2 := B2'.cell (i := 2) rfl
  have f2 := B2'.free 2
  have s0 := B1'.cell (i := 0) rfl
  have s1 := B1'.cell (i := 1) rfl
  have s2 := B1'.cell (i := 2) rfl
  have g0 := B1'.free 0
  have g1 := B1'.free 1
  have g2 := B1'.free 2
  have hO2' := (hO2.mono (W1 _ _))
  have hE2' := (W1 _ _).trans hE2
  simp at p0 p1 p2 s0 s1 s2
  have hW1 := W1 (.slice ao1 l.length k1) (.int .i64 n)
  clear B2' B1' hE2 W1 B0 B1 B2
  go_wp2_with fail
  refine bodyPost_ret (v := .agg #[.slice ao1 l.length k1, .int .i64 n, .slice ao2 m.length k2]) (by simp [results, Try.results51, go_sem, s0, s1, s2]) rfl ⟨_, rfl, ⟨_, _, rfl, ?_, ?_, hap⟩, ?_⟩
  · exact ((((hO1'.setCell_below (by rw [Sb.out]; simp) _).setCell_below (by rw [Sb.out]; simp) _).setCell_below (by rw [Sb.out]; simp) _).setCell_below (by rw [Sb.out]; simp) _).mono e0
  · have hz := hE1.size
    rw [Sb.out] at hz
    exact ((((hO2.setCell_below (by simp; omega) _).setCell_below (by simp; omega) _).setCell_below (by simp; omega) _).setCell_below (by simp; omega) _).mono hW1
  · exact (((hE2'.setCell (by simp [Nat.add_assoc]) _).setCell (by simp) _).setCell (by simp) _).setCell (by simp) _

end Go.Zz
