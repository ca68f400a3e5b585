/- Claims: the laws' helpers that size and copy. -/
import Derived.Test.YtopmhjmjmdohhaaC36
namespace Go.Zz
open Go.RowKit Go.Proofs
set_option maxHeartbeats 4000000
set_option maxRecDepth 20000

def szC (g o t q : List Int) (left : Int) : Int := if szL g left < 0 then -1 else if szL o (szL g left) < 0 then -1 else if szL t (szL o (szL g left)) < 0 then -1 else szL q (szL t (szL o (szL g left)))
theorem szClaim_any (k a b s p n : Int) (g o t q : List Int) (v1 v2 v3 v4 : Value) (left : Int) (w : World) (h : Ints4 w v1 v2 v3 v4 g o t q) (h1 : 0 ≤ left) (h2 : left ≤ 1048576) :
    Calls Try.prog 28 #[CV k v1 v2 a b s p v3 v4 n, .int .i64 left] w fun e w' => e = .returned (.int .i64 (szC g o t q left)) ∧ Ext w w' := by
  unfold CV
  obtain ⟨wb, hwb⟩ : ∃ wb, wb = w.alloc (.cells #[.int .i64 k, v1, v2, .int .i64 a, .int .i64 b, .int .i64 s, .int .i64 p, v3, v4, .int .i64 n] 48) := ⟨_, rfl⟩
  have hE0 : Ext w wb := by rw [hwb]; exact (Ext.refl _).alloc _
  have B0 : Blk wb w.heap.size 48 #[.int .i64 k, v1, v2, .int .i64 a, .int .i64 b, .int .i64 s, .int .i64 p, v3, v4, .int .i64 n] := by rw [hwb]; exact Blk.new _ _ _
  have H : ∀ W, Ext wb W → Ints4 W v1 v2 v3 v4 g o t q := fun W hW => h.ext (hE0.trans hW)
  have hE := Ext.refl wb
  have Hwb := Lib.hid hwb
  clear hwb h
  rcases szL_cases g h1 with s1 | ⟨s1, s1'⟩
  · have Hz : Hid (szC g o t q left = -1) := Lib.hid (by unfold szC; rw [if_pos (by omega)])
    have s1x : szL g left < 0 := by omega
    clear s1
    go_enter Try.func28, Try.ntmps28
    go_wp2_with fail
    rw [← Hwb.out]
    refine (szGroup_any _ _ _ _ (H _ hE).g h1 h2).mono ?_
    rintro e w1 ⟨rfl, hE1⟩
    go_wp2_with fail
    go_ret
    exact ⟨ret_int Hz.out.symm, hE0.trans hE1⟩
  rcases szL_cases o s1 with s2 | ⟨s2, s2'⟩
  · have Hz : Hid (szC g o t q left = -1) := Lib.hid (by unfold szC; rw [if_neg (by omega), if_pos (by omega)])
    have s2x : szL o (szL g left) < 0 := by omega
    clear s2
    go_enter Try.func28, Try.ntmps28
    go_wp2_with fail
    rw [← Hwb.out]
    refine (szGroup_any _ _ _ _ (H _ hE).g h1 h2).mono ?_
    rintro e w1 ⟨rfl, hE1⟩
    have z2 := (B0.ext hE1).cell (i := 2) (v := v2) rfl
    go_wp2_with fail
    refine (szGroup_any _ _ _ _ (H _ hE1).o s1 (by omega)).mono ?_
    rintro e w2 ⟨rfl, hE2⟩
    have hE12 := hE1.trans hE2
    have z7 := (B0.ext hE12).cell (i := 7) (v := v3) rfl
    have z8 := (B0.ext hE12).cell (i := 8) (v := v4) rfl
    go_wp2_with fail
    go_ret
    exact ⟨ret_int Hz.out.symm, hE0.trans (hE1.trans hE2)⟩
  rcases szL_cases t s2 with s3 | ⟨s3, s3'⟩
  · have Hz : Hid (szC g o t q left = -1) := Lib.hid (by unfold szC; rw [if_neg (by omega), if_neg (by omega), if_pos (by omega)])
    have s3x : szL t (szL o (szL g left)) < 0 := by omega
    clear s3
    go_enter Try.func28, Try.ntmps28
    go_wp2_with fail
    rw [← Hwb.out]
    refine (szGroup_any _ _ _ _ (H _ hE).g h1 h2).mono ?_
    rintro e w1 ⟨rfl, hE1⟩
    have z2 := (B0.ext hE1).cell (i := 2) (v := v2) rfl
    go_wp2_with fail
    refine (szGroup_any _ _ _ _ (H _ hE1).o s1 (by omega)).mono ?_
    rintro e w2 ⟨rfl, hE2⟩
    have hE12 := hE1.trans hE2
    have z7 := (B0.ext hE12).cell (i := 7) (v := v3) rfl
    have z8 := (B0.ext hE12).cell (i := 8) (v := v4) rfl
    go_wp2_with fail
    refine (szIntS_any _ _ _ _ (H _ hE12).t s2 (by omega)).mono ?_
    rintro e w3 ⟨rfl, rfl⟩
    go_wp2_with fail
    go_ret
    exact ⟨ret_int Hz.out.symm, hE0.trans hE12⟩
  have Hz : Hid (szC g o t q left = szL q (szL t (szL o (szL g left)))) := Lib.hid (by unfold szC; rw [if_neg (by omega), if_neg (by omega), if_neg (by omega)])
  rcases szL_cases q s3 with s4 | ⟨s4, s4'⟩
  · have s4x : szL q (szL t (szL o (szL g left))) < 0 := by omega
    have S4 := Lib.hid s4
    clear s4
    go_enter Try.func28, Try.ntmps28
    go_wp2_with fail
    rw [← Hwb.out]
    refine (szGroup_any _ _ _ _ (H _ hE).g h1 h2).mono ?_
    rintro e w1 ⟨rfl, hE1⟩
    have z2 := (B0.ext hE1).cell (i := 2) (v := v2) rfl
    go_wp2_with fail
    refine (szGroup_any _ _ _ _ (H _ hE1).o s1 (by omega)).mono ?_
    rintro e w2 ⟨rfl, hE2⟩
    have hE12 := hE1.trans hE2
    have z7 := (B0.ext hE12).cell (i := 7) (v := v3) rfl
    have z8 := (B0.ext hE12).cell (i := 8) (v := v4) rfl
    go_wp2_with fail
    refine (szIntS_any _ _ _ _ (H _ hE12).t s2 (by omega)).mono ?_
    rintro e w3 ⟨rfl, rfl⟩
    go_wp2_with fail
    refine (szIntS_any _ _ _ _ (H _ hE12).q s3 (by omega)).mono ?_
    rintro e w3 ⟨rfl, rfl⟩
    go_wp2_with fail
    go_ret
    exact ⟨ret_int (by rw [Hz.out, S4.out]), hE0.trans hE12⟩
  ·
    go_enter Try.func28, Try.ntmps28
    go_wp2_with fail
    rw [← Hwb.out]
    refine (szGroup_any _ _ _ _ (H _ hE).g h1 h2).mono ?_
    rintro e w1 ⟨rfl, hE1⟩
    have z2 := (B0.ext hE1).cell (i := 2) (v := v2) rfl
    go_wp2_with fail
    refine (szGroup_any _ _ _ _ (H _ hE1).o s1 (by omega)).mono ?_
    rintro e w2 ⟨rfl, hE2⟩
    have hE12 := hE1.trans hE2
    have z7 := (B0.ext hE12).cell (i := 7) (v := v3) rfl
    have z8 := (B0.ext hE12).cell (i := 8) (v := v4) rfl
    go_wp2_with fail
    refine (szIntS_any _ _ _ _ (H _ hE12).t s2 (by omega)).mono ?_
    rintro e w3 ⟨rfl, rfl⟩
    go_wp2_with fail
    refine (szIntS_any _ _ _ _ (H _ hE12).q s3 (by omega)).mono ?_
    rintro e w3 ⟨rfl, rfl⟩
    go_wp2_with fail
    go_ret
    exact ⟨ret_int Hz.out.symm, hE0.trans hE12⟩
theorem toClaim_any (k a b s p n : Int) (g o t q : List Int) (v1 v2 v3 v4 : Value) (w : World) (h : Ints4 w v1 v2 v3 v4 g o t q) :
    Calls Try.prog 30 #[CV k v1 v2 a b s p v3 v4 n] w fun e w' => ∃ u1 u2 u3 u4, e = .returned (CV k u1 u2 a b s p u3 u4 n) ∧ Own4 w w' u1 u2 u3 u4 g o t q ∧ Ext w w' := by
  unfold CV
  obtain ⟨wb, hwb⟩ : ∃ wb, wb = ((w.alloc (.cells #[.int .i64 k, v1, v2, .int .i64 a, .int .i64 b, .int .i64 s, .int .i64 p, v3, v4, .int .i64 n] 48)).alloc (.cells #[.int .i64 0, .slice none 0 0, .slice none 0 0, .int .i64 0, .int .i64 0, .int .i64 0, .int .i64 0, .slice none 0 0, .slice none 0 0, .int .i64 0] 26)).alloc (.cells #[.int .i64 k, .slice none 0 0, .slice none 0 0, .int .i64 0, .int .i64 0, .int .i64 0, .int .i64 0, .slice none 0 0, .slice none 0 0, .int .i64 0] 26) := ⟨_, rfl⟩
  have e0 : Ext w wb := by rw [hwb]; exact (((Ext.refl _).alloc _).alloc _).alloc _
  have sb : wb.heap.size = w.heap.size + 3 := by rw [hwb]; simp
  have B0 : Blk wb w.heap.size 48 #[.int .i64 k, v1, v2, .int .i64 a, .int .i64 b, .int .i64 s, .int .i64 p, v3, v4, .int .i64 n] := by rw [hwb]; exact ((Blk.new _ _ _).alloc _).alloc _
  have B1 : Blk wb (w.heap.size + 1) 26 #[.int .i64 0, .slice none 0 0, .slice none 0 0, .int .i64 0, .int .i64 0, .int .i64 0, .int .i64 0, .slice none 0 0, .slice none 0 0, .int .i64 0] := by rw [hwb]; exact (by simpa using Blk.new (w.alloc (.cells #[.int .i64 k, v1, v2, .int .i64 a, .int .i64 b, .int .i64 s, .int .i64 p, v3, v4, .int .i64 n] 48)) 26 #[.int .i64 0, .slice none 0 0, .slice none 0 0, .int .i64 0, .int .i64 0, .int .i64 0, .int .i64 0, .slice none 0 0, .slice none 0 0, .int .i64 0] : Blk _ (w.heap.size + 1) _ _).alloc _
  have B2 : Blk wb (w.heap.size + 1 + 1) 26 #[.int .i64 k, .slice none 0 0, .slice none 0 0, .int .i64 0, .int .i64 0, .int .i64 0, .int .i64 0, .slice none 0 0, .slice none 0 0, .int .i64 0] := by rw [hwb]; simpa using Blk.new ((w.alloc (.cells #[.int .i64 k, v1, v2, .int .i64 a, .int .i64 b, .int .i64 s, .int .i64 p, v3, v4, .int .i64 n] 48)).alloc (.cells #[.int .i64 0, .slice none 0 0, .slice none 0 0, .int .i64 0, .int .i64 0, .int .i64 0, .int .i64 0, .slice none 0 0, .slice none 0 0, .int .i64 0] 26)) 26 #[.int .i64 k, .slice none 0 0, .slice none 0 0, .int .i64 0, .int .i64 0, .int .i64 0, .int .i64 0, .slice none 0 0, .slice none 0 0, .int .i64 0]
  have low : w.heap.size ≤ w.heap.size + 1 + 1 := by omega
  have HH : Hid (∀ W, Ext w W → Ints4 W v1 v2 v3 v4 g o t q) := Lib.hid fun W hW => h.ext hW
  have Hwb := Lib.hid hwb
  have Sb := Lib.hid sb
  clear hwb h sb
  go_enter Try.func30, Try.ntmps30
  go_wp2_with fail
  rw [← Hwb.out]
  have x1 : Ext w wb := e0
  refine (toGroup_any _ _ _ (HH.out _ x1).g).mono ?_
  rintro e w1 ⟨u1, rfl, hO1, hE1⟩
  obtain ⟨ao1, k1, rfl, -⟩ := hO1.shape
  have C0 := B0.ext hE1
  have C1 := B1.ext hE1
  have C2 := B2.ext hE1
  have e1 := x1.trans hE1
  have big1 : w.heap.size + 1 + 1 < wb.heap.size := by have := Sb.out; omega
  clear B0 B1 B2
  have p1 := C2.cell (i := 1) (v := .slice none 0 0) rfl
  have f1 := C2.free 1
  have r2 := C0.cell (i := 2) (v := v2) rfl
  go_wp2_with fail
  have x2 : Ext w (w1.setCell ⟨w.heap.size + 1 + 1, 1, none⟩ (.slice ao1 g.length k1)) := e1.setCell low _
  refine (toGroup_any _ _ _ (HH.out _ x2).o).mono ?_
  rintro e w2 ⟨u2, rfl, hO2, hE2⟩
  obtain ⟨ao2, k2, rfl, -⟩ := hO2.shape
  have big2 : w.heap.size + 1 + 1 < (w1.setCell ⟨w.heap.size + 1 + 1, 1, none⟩ (.slice ao1 g.length k1)).heap.size := by have := hE1.size; simp at *; omega
  replace hO1 := hO1.setCell_below (p := ⟨w.heap.size + 1 + 1, 1, none⟩) big1 (.slice ao1 g.length k1)
  have d12 := apart_of hO1 hO2 (Nat.le_refl _)
  have D0 := (C0.other (p := ⟨w.heap.size + 1 + 1, 1, none⟩) (by simp <;> omega) (.slice ao1 g.length k1)).ext hE2
  have D1 := (C1.other (p := ⟨w.heap.size + 1 + 1, 1, none⟩) (by simp <;> omega) (.slice ao1 g.length k1)).ext hE2
  have D2 := (C2.set 1 (.slice ao1 g.length k1)).ext hE2
  replace hO1 := hO1.ext hE2
  have e2 := x2.trans hE2
  clear C0 C1 C2 p1 f1 r2
  have p2 := D2.cell (i := 2) (v := .slice none 0 0) rfl
  have f2 := D2.free 2
  have p3 := D2.cell (i := 3) (v := .int .i64 0) rfl
  have f3 := D2.free 3
  have p4 := D2.cell (i := 4) (v := .int .i64 0) rfl
  have f4 := D2.free 4
  have p5 := D2.cell (i := 5) (v := .int .i64 0) rfl
  have f5 := D2.free 5
  have p6 := D2.cell (i := 6) (v := .int .i64 0) rfl
  have f6 := D2.free 6
  have r3 := D0.cell (i := 3) (v := .int .i64 a) rfl
  have r4 := D0.cell (i := 4) (v := .int .i64 b) rfl
  have r5 := D0.cell (i := 5) (v := .int .i64 s) rfl
  have r6 := D0.cell (i := 6) (v := .int .i64 p) rfl
  have r7 := D0.cell (i := 7) (v := v3) rfl
  go_wp2_with fail
  obtain ⟨wx, hwx⟩ : ∃ wx, wx = ((((w2.setCell ⟨w.heap.size + 1 + 1, 2, none⟩ (.slice ao2 o.length k2)).setCell ⟨w.heap.size + 1 + 1, 3, none⟩ (.int .i64 a)).setCell ⟨w.heap.size + 1 + 1, 4, none⟩ (.int .i64 b)).setCell ⟨w.heap.size + 1 + 1, 5, none⟩ (.int .i64 s)).setCell ⟨w.heap.size + 1 + 1, 6, none⟩ (.int .i64 p) := ⟨_, rfl⟩
  rw [← hwx]
  have x3 : Ext w wx := by rw [hwx]; exact ((((e2.setCell low _).setCell low _).setCell low _).setCell low _).setCell low _
  refine (toIntS_any _ _ _ (HH.out _ x3).t).mono ?_
  rintro e w3 ⟨u3, rfl, hO3, hE3⟩
  obtain ⟨ao3, k3, rfl, -⟩ := hO3.shape
  have E0 : Blk wx w.heap.size 48 #[.int .i64 k, v1, v2, .int .i64 a, .int .i64 b, .int .i64 s, .int .i64 p, v3, v4, .int .i64 n] := by rw [hwx]; exact ((((D0.other (by simp <;> omega) _).other (by simp <;> omega) _).other (by simp <;> omega) _).other (by simp <;> omega) _).other (by simp <;> omega) _
  have E1 : Blk wx (w.heap.size + 1) 26 #[.int .i64 0, .slice none 0 0, .slice none 0 0, .int .i64 0, .int .i64 0, .int .i64 0, .int .i64 0, .slice none 0 0, .slice none 0 0, .int .i64 0] := by rw [hwx]; exact ((((D1.other (by simp <;> omega) _).other (by simp <;> omega) _).other (by simp <;> omega) _).other (by simp <;> omega) _).other (by simp <;> omega) _
  have E2 : Blk wx (w.heap.size + 1 + 1) 26 #[.int .i64 k, .slice ao1 g.length k1, .slice ao2 o.length k2, .int .i64 a, .int .i64 b, .int .i64 s, .int .i64 p, .slice none 0 0, .slice none 0 0, .int .i64 0] := by rw [hwx]; exact ((((D2.set 2 _).set 3 _).set 4 _).set 5 _).set 6 _
  replace hO1 : Own 3 wb wx (.slice ao1 g.length k1) g := by rw [hwx]; exact ((((hO1.setCell_below big1 _).setCell_below big1 _).setCell_below big1 _).setCell_below big1 _).setCell_below big1 _
  replace hO2 : Own 3 (w1.setCell ⟨w.heap.size + 1 + 1, 1, none⟩ (.slice ao1 g.length k1)) wx (.slice ao2 o.length k2) o := by rw [hwx]; exact ((((hO2.setCell_below big2 _).setCell_below big2 _).setCell_below big2 _).setCell_below big2 _).setCell_below big2 _
  have d13 := apart_of hO1 hO3 (Nat.le_refl _)
  have d23 := apart_of hO2 hO3 (Nat.le_refl _)
  replace E0 := E0.ext hE3
  replace E1 := E1.ext hE3
  replace E2 := E2.ext hE3
  replace hO1 := hO1.ext hE3
  replace hO2 := hO2.ext hE3
  have sx : wx.heap.size = w2.heap.size := by rw [hwx]; simp
  have big3 : w.heap.size + 1 + 1 < wx.heap.size := by rw [sx]; exact Nat.lt_of_lt_of_le big2 hE2.size
  have e3 := x3.trans hE3
  have X3 := Lib.hid x3
  clear hwx D0 D1 D2 p2 f2 p3 f3 p4 f4 p5 f5 p6 f6 r3 r4 r5 r6 r7 sx x3
  have p7 := E2.cell (i := 7) (v := .slice none 0 0) rfl
  have f7 := E2.free 7
  have r8 := E0.cell (i := 8) (v := v4) rfl
  go_wp2_with fail
  have x4 : Ext w (w3.setCell ⟨w.heap.size + 1 + 1, 7, none⟩ (.slice ao3 t.length k3)) := e3.setCell low _
  refine (toIntS_any _ _ _ (HH.out _ x4).q).mono ?_
  rintro e w4 ⟨u4, rfl, hO4, hE4⟩
  obtain ⟨ao4, k4, rfl, -⟩ := hO4.shape
  replace hO1 := hO1.setCell_below (p := ⟨w.heap.size + 1 + 1, 7, none⟩) big1 (.slice ao3 t.length k3)
  replace hO2 := hO2.setCell_below (p := ⟨w.heap.size + 1 + 1, 7, none⟩) big2 (.slice ao3 t.length k3)
  replace hO3 := hO3.setCell_below (p := ⟨w.heap.size + 1 + 1, 7, none⟩) big3 (.slice ao3 t.length k3)
  have d14 := apart_of hO1 hO4 (Nat.le_refl _)
  have d24 := apart_of hO2 hO4 (Nat.le_refl _)
  have d34 := apart_of hO3 hO4 (Nat.le_refl _)
  have F0 := (E0.other (p := ⟨w.heap.size + 1 + 1, 7, none⟩) (by simp <;> omega) (.slice ao3 t.length k3)).ext hE4
  have F1 := (E1.other (p := ⟨w.heap.size + 1 + 1, 7, none⟩) (by simp <;> omega) (.slice ao3 t.length k3)).ext hE4
  have F2 : Blk w4 (w.heap.size + 1 + 1) 26 #[.int .i64 k, .slice ao1 g.length k1, .slice ao2 o.length k2, .int .i64 a, .int .i64 b, .int .i64 s, .int .i64 p, .slice ao3 t.length k3, .slice none 0 0, .int .i64 0] := (E2.set 7 (.slice ao3 t.length k3)).ext hE4
  replace hO1 := hO1.ext hE4
  replace hO2 := hO2.ext hE4
  replace hO3 := hO3.ext hE4
  have e4 := x4.trans hE4
  have s4 : (w3.setCell ⟨w.heap.size + 1 + 1, 7, none⟩ (.slice ao3 t.length k3)).heap.size = w3.heap.size := by simp
  have big4 : w.heap.size + 1 + 1 < (w3.setCell ⟨w.heap.size + 1 + 1, 7, none⟩ (.slice ao3 t.length k3)).heap.size := by rw [s4]; exact Nat.lt_of_lt_of_le big3 hE3.size
  have hQ : Own4 w w4 (.slice ao1 g.length k1) (.slice ao2 o.length k2) (.slice ao3 t.length k3) (.slice ao4 q.length k4) g o t q := ⟨hO1.mono x1, hO2.mono x2, hO3.mono X3.out, hO4.mono x4, d12, d13, d14, d23, d24, d34⟩
  have Big := Lib.hid (⟨hO1, hO2, hO3, hO4⟩ : _ ∧ _ ∧ _ ∧ _)
  have HQ := Lib.hid hQ
  have X1 := Lib.hid x1
  have X2 := Lib.hid x2
  have X4 := Lib.hid x4
  clear s4 E0 E1 E2 p7 f7 r8 hO1 hO2 hO3 hO4 d12 d13 d14 d23 d24 d34 hQ x1 x2 x4
  have p8 := F2.cell (i := 8) (v := .slice none 0 0) rfl
  have f8 := F2.free 8
  have p9 := F2.cell (i := 9) (v := .int .i64 0) rfl
  have f9 := F2.free 9
  have r9 := F0.cell (i := 9) (v := .int .i64 n) rfl
  have q0 := F2.cell (i := 0) (v := .int .i64 k) rfl
  have q1 := F2.cell (i := 1) (v := .slice ao1 g.length k1) rfl
  have q2 := F2.cell (i := 2) (v := .slice ao2 o.length k2) rfl
  have q3 := F2.cell (i := 3) (v := .int .i64 a) rfl
  have q4 := F2.cell (i := 4) (v := .int .i64 b) rfl
  have q5 := F2.cell (i := 5) (v := .int .i64 s) rfl
  have q6 := F2.cell (i := 6) (v := .int .i64 p) rfl
  have q7 := F2.cell (i := 7) (v := .slice ao3 t.length k3) rfl
  have y0 := F1.cell (i := 0) (v := .int .i64 0) rfl
  have y1 := F1.cell (i := 1) (v := .slice none 0 0) rfl
  have y2 := F1.cell (i := 2) (v := .slice none 0 0) rfl
  have y3 := F1.cell (i := 3) (v := .int .i64 0) rfl
  have y4 := F1.cell (i := 4) (v := .int .i64 0) rfl
  have y5 := F1.cell (i := 5) (v := .int .i64 0) rfl
  have y6 := F1.cell (i := 6) (v := .int .i64 0) rfl
  have y7 := F1.cell (i := 7) (v := .slice none 0 0) rfl
  have y8 := F1.cell (i := 8) (v := .slice none 0 0) rfl
  have y9 := F1.cell (i := 9) (v := .int .i64 0) rfl
  have z0 := F1.free 0
  have z1 := F1.free 1
  have z2 := F1.free 2
  have z3 := F1.free 3
  have z4 := F1.free 4
  have z5 := F1.free 5
  have z6 := F1.free 6
  have z7 := F1.free 7
  have z8 := F1.free 8
  have z9 := F1.free 9
  go_wp2_with fail
  refine bodyPost_ret (v := .agg #[.int .i64 k, .slice ao1 g.length k1, .slice ao2 o.length k2, .int .i64 a, .int .i64 b, .int .i64 s, .int .i64 p, .slice ao3 t.length k3, .slice ao4 q.length k4, .int .i64 n]) (by simp [results, Try.results30, go_sem, y0, y1, y2, y3, y4, y5, y6, y7, y8, y9]) rfl ⟨_, _, _, _, rfl, ?_, ?_⟩
  · obtain ⟨-, -, -, -, d12, d13, d14, d23, d24, d34⟩ := HQ.out
    obtain ⟨hO1, hO2, hO3, hO4⟩ := Big.out
    refine ⟨Own.mono ?_ X1.out, Own.mono ?_ X2.out, Own.mono ?_ X3.out, Own.mono ?_ X4.out, d12, d13, d14, d23, d24, d34⟩
    · (repeat (refine Own.setCell_below ?_ (by first | exact big1 | (simp only []; omega)) _)); exact hO1
    · (repeat (refine Own.setCell_below ?_ (by first | exact big2 | (simp only []; omega)) _)); exact hO2
    · (repeat (refine Own.setCell_below ?_ (by first | exact big3 | (simp only []; omega)) _)); exact hO3
    · (repeat (refine Own.setCell_below ?_ (by first | exact big4 | (simp only []; omega)) _)); exact hO4
  · (repeat (refine Ext.setCell ?_ (by first | exact low | (simp only []; omega)) _)); exact e4
end Go.Zz
