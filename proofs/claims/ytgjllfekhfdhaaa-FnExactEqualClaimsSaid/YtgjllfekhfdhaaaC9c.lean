/- EqualClaims. -/
import Derived.Test.YtgjllfekhfdhaaaC9
namespace Go.Zz
open Go.RowKit Go.Proofs
set_option maxHeartbeats 9000000
set_option maxRecDepth 100000
--%call sEqualClaims 15 ext sEqualClaims_any _ _ _ _ _ _ _ _ _ _ _ ({0}) ({1})
theorem sEqualClaims_any (c d : Cl) (v1 v2 v3 v4 u1 u2 u3 u4 : Value) (w : World) (h : IsC w c v1 v2 v3 v4) (k : IsC w d u1 u2 u3 u4) :
    Calls Try.prog 15 #[.agg #[.int .i64 c.k, v1, v2, .int .i64 c.a, .int .i64 c.b, .int .i64 c.s, .int .i64 c.p, v3, v4, .int .i64 c.n], .agg #[.int .i64 d.k, u1, u2, .int .i64 d.a, .int .i64 d.b, .int .i64 d.s, .int .i64 d.p, u3, u4, .int .i64 d.n]] w
      fun e w' => e = .returned (.bool (eqC c d)) ∧ Ext w w' := by
  obtain ⟨wb, hwb⟩ : ∃ wb, wb = (w.alloc (.cells #[.int .i64 c.k, v1, v2, .int .i64 c.a, .int .i64 c.b, .int .i64 c.s, .int .i64 c.p, v3, v4, .int .i64 c.n] 31)).alloc (.cells #[.int .i64 d.k, u1, u2, .int .i64 d.a, .int .i64 d.b, .int .i64 d.s, .int .i64 d.p, u3, u4, .int .i64 d.n] 31) := ⟨_, rfl⟩
  have e0 : Ext w wb := by rw [hwb]; exact ((Ext.refl _).alloc _).alloc _
  have B0 : Blk wb w.heap.size 31 #[.int .i64 c.k, v1, v2, .int .i64 c.a, .int .i64 c.b, .int .i64 c.s, .int .i64 c.p, v3, v4, .int .i64 c.n] := by rw [hwb]; exact (Blk.new _ _ _).alloc _
  have B1 : Blk wb (w.heap.size + 1) 31 #[.int .i64 d.k, u1, u2, .int .i64 d.a, .int .i64 d.b, .int .i64 d.s, .int .i64 d.p, u3, u4, .int .i64 d.n] := by rw [hwb]; simpa using Blk.new (w.alloc (.cells #[.int .i64 c.k, v1, v2, .int .i64 c.a, .int .i64 c.b, .int .i64 c.s, .int .i64 c.p, v3, v4, .int .i64 c.n] 31)) 31 #[.int .i64 d.k, u1, u2, .int .i64 d.a, .int .i64 d.b, .int .i64 d.s, .int .i64 d.p, u3, u4, .int .i64 d.n]
  have i1 := Lib.hid (fun W (hW : Ext wb W) => (h.ext (e0.trans hW)).g)
  have i2 := Lib.hid (fun W (hW : Ext wb W) => (h.ext (e0.trans hW)).o)
  have i3 := Lib.hid (fun W (hW : Ext wb W) => (h.ext (e0.trans hW)).t)
  have i4 := Lib.hid (fun W (hW : Ext wb W) => (h.ext (e0.trans hW)).q)
  have j1 := Lib.hid (fun W (hW : Ext wb W) => (k.ext (e0.trans hW)).g)
  have j2 := Lib.hid (fun W (hW : Ext wb W) => (k.ext (e0.trans hW)).o)
  have j3 := Lib.hid (fun W (hW : Ext wb W) => (k.ext (e0.trans hW)).t)
  have j4 := Lib.hid (fun W (hW : Ext wb W) => (k.ext (e0.trans hW)).q)
  have hE := Ext.refl wb
  have Hwb := Lib.hid hwb
  clear hwb h k
  by_cases ck : c.k = d.k
  rotate_left
  · have Dk := Lib.hid (show (c.k == d.k) = false by simp [ck])
    have yk := Dk.out
    have ek : (c.k != d.k) = true := by simp [ck]
    clear ck
    go_enter Try.func15, Try.ntmps15
    go_wp2_with fail
    rw [← Hwb.out]
    go_ret
    exact ⟨ret_bool (by simp [eqC, Dk.out]), e0.trans hE⟩
  have Dk := Lib.hid (show (c.k == d.k) = true by simp [ck])
  have yk := Dk.out
  have ek : (c.k != d.k) = false := by simp [ck]
  by_cases cg : c.g = d.g
  rotate_left
  · have Dg := Lib.hid (show decide (c.g = d.g) = false by simp [cg])
    have yg := Dg.out
    clear ck cg
    go_enter Try.func15, Try.ntmps15
    go_wp2_with fail
    rw [← Hwb.out]
    refine (sEqualGroups_any _ _ _ _ _ (i1.out _ hE) (j1.out _ hE)).mono ?_
    rintro e w1 ⟨rfl, hE'⟩
    replace hE := hE.trans hE'
    clear hE'
    go_wp2_with fail
    go_ret
    exact ⟨ret_bool (by simp [eqC, Dk.out, Dg.out]), e0.trans hE⟩
  have Dg := Lib.hid (show decide (c.g = d.g) = true by simp [cg])
  have yg := Dg.out
  by_cases co : c.o = d.o
  rotate_left
  · have Do := Lib.hid (show decide (c.o = d.o) = false by simp [co])
    have yo := Do.out
    clear ck cg co
    go_enter Try.func15, Try.ntmps15
    go_wp2_with fail
    rw [← Hwb.out]
    refine (sEqualGroups_any _ _ _ _ _ (i1.out _ hE) (j1.out _ hE)).mono ?_
    rintro e w1 ⟨rfl, hE'⟩
    replace hE := hE.trans hE'
    clear hE'
    have m2 := (B0.ext hE).cell (i := 2) (v := v2) rfl
    have n2 := (B1.ext hE).cell (i := 2) (v := u2) rfl
    go_wp2_with fail
    refine (sEqualGroups_any _ _ _ _ _ (i2.out _ hE) (j2.out _ hE)).mono ?_
    rintro e w2 ⟨rfl, hE'⟩
    replace hE := hE.trans hE'
    clear hE'
    clear m2 n2
    go_wp2_with fail
    go_ret
    exact ⟨ret_bool (by simp [eqC, Dk.out, Dg.out, Do.out]), e0.trans hE⟩
  have Do := Lib.hid (show decide (c.o = d.o) = true by simp [co])
  have yo := Do.out
  by_cases ca : c.a = d.a
  rotate_left
  · have Da := Lib.hid (show (c.a == d.a) = false by simp [ca])
    have ya := Da.out
    have ea : (c.a != d.a) = true := by simp [ca]
    clear ck cg co ca
    go_enter Try.func15, Try.ntmps15
    go_wp2_with fail
    rw [← Hwb.out]
    refine (sEqualGroups_any _ _ _ _ _ (i1.out _ hE) (j1.out _ hE)).mono ?_
    rintro e w1 ⟨rfl, hE'⟩
    replace hE := hE.trans hE'
    clear hE'
    have m2 := (B0.ext hE).cell (i := 2) (v := v2) rfl
    have n2 := (B1.ext hE).cell (i := 2) (v := u2) rfl
    go_wp2_with fail
    refine (sEqualGroups_any _ _ _ _ _ (i2.out _ hE) (j2.out _ hE)).mono ?_
    rintro e w2 ⟨rfl, hE'⟩
    replace hE := hE.trans hE'
    clear hE'
    clear m2 n2
    have m3 := (B0.ext hE).cell (i := 3) (v := .int .i64 c.a) rfl
    have n3 := (B1.ext hE).cell (i := 3) (v := .int .i64 d.a) rfl
    go_wp2_with fail
    go_ret
    exact ⟨ret_bool (by simp [eqC, Dk.out, Dg.out, Do.out, Da.out]), e0.trans hE⟩
  have Da := Lib.hid (show (c.a == d.a) = true by simp [ca])
  have ya := Da.out
  have ea : (c.a != d.a) = false := by simp [ca]
  by_cases cb : c.b = d.b
  rotate_left
  · have Db := Lib.hid (show (c.b == d.b) = false by simp [cb])
    have yb := Db.out
    have eb : (c.b != d.b) = true := by simp [cb]
    clear ck cg co ca cb
    go_enter Try.func15, Try.ntmps15
    go_wp2_with fail
    rw [← Hwb.out]
    refine (sEqualGroups_any _ _ _ _ _ (i1.out _ hE) (j1.out _ hE)).mono ?_
    rintro e w1 ⟨rfl, hE'⟩
    replace hE := hE.trans hE'
    clear hE'
    have m2 := (B0.ext hE).cell (i := 2) (v := v2) rfl
    have n2 := (B1.ext hE).cell (i := 2) (v := u2) rfl
    go_wp2_with fail
    refine (sEqualGroups_any _ _ _ _ _ (i2.out _ hE) (j2.out _ hE)).mono ?_
    rintro e w2 ⟨rfl, hE'⟩
    replace hE := hE.trans hE'
    clear hE'
    clear m2 n2
    have m3 := (B0.ext hE).cell (i := 3) (v := .int .i64 c.a) rfl
    have n3 := (B1.ext hE).cell (i := 3) (v := .int .i64 d.a) rfl
    have m4 := (B0.ext hE).cell (i := 4) (v := .int .i64 c.b) rfl
    have n4 := (B1.ext hE).cell (i := 4) (v := .int .i64 d.b) rfl
    go_wp2_with fail
    go_ret
    exact ⟨ret_bool (by simp [eqC, Dk.out, Dg.out, Do.out, Da.out, Db.out]), e0.trans hE⟩
  have Db := Lib.hid (show (c.b == d.b) = true by simp [cb])
  have yb := Db.out
  have eb : (c.b != d.b) = false := by simp [cb]
  by_cases cs : c.s = d.s
  rotate_left
  · have Ds := Lib.hid (show (c.s == d.s) = false by simp [cs])
    have ys := Ds.out
    have es : (c.s != d.s) = true := by simp [cs]
    clear ck cg co ca cb cs
    go_enter Try.func15, Try.ntmps15
    go_wp2_with fail
    rw [← Hwb.out]
    refine (sEqualGroups_any _ _ _ _ _ (i1.out _ hE) (j1.out _ hE)).mono ?_
    rintro e w1 ⟨rfl, hE'⟩
    replace hE := hE.trans hE'
    clear hE'
    have m2 := (B0.ext hE).cell (i := 2) (v := v2) rfl
    have n2 := (B1.ext hE).cell (i := 2) (v := u2) rfl
    go_wp2_with fail
    refine (sEqualGroups_any _ _ _ _ _ (i2.out _ hE) (j2.out _ hE)).mono ?_
    rintro e w2 ⟨rfl, hE'⟩
    replace hE := hE.trans hE'
    clear hE'
    clear m2 n2
    have m3 := (B0.ext hE).cell (i := 3) (v := .int .i64 c.a) rfl
    have n3 := (B1.ext hE).cell (i := 3) (v := .int .i64 d.a) rfl
    have m4 := (B0.ext hE).cell (i := 4) (v := .int .i64 c.b) rfl
    have n4 := (B1.ext hE).cell (i := 4) (v := .int .i64 d.b) rfl
    have m5 := (B0.ext hE).cell (i := 5) (v := .int .i64 c.s) rfl
    have n5 := (B1.ext hE).cell (i := 5) (v := .int .i64 d.s) rfl
    go_wp2_with fail
    go_ret
    exact ⟨ret_bool (by simp [eqC, Dk.out, Dg.out, Do.out, Da.out, Db.out, Ds.out]), e0.trans hE⟩
  have Ds := Lib.hid (show (c.s == d.s) = true by simp [cs])
  have ys := Ds.out
  have es : (c.s != d.s) = false := by simp [cs]
  by_cases cp : c.p = d.p
  rotate_left
  · have Dp := Lib.hid (show (c.p == d.p) = false by simp [cp])
    have yp := Dp.out
    have ep : (c.p != d.p) = true := by simp [cp]
    clear ck cg co ca cb cs cp
    go_enter Try.func15, Try.ntmps15
    go_wp2_with fail
    rw [← Hwb.out]
    refine (sEqualGroups_any _ _ _ _ _ (i1.out _ hE) (j1.out _ hE)).mono ?_
    rintro e w1 ⟨rfl, hE'⟩
    replace hE := hE.trans hE'
    clear hE'
    have m2 := (B0.ext hE).cell (i := 2) (v := v2) rfl
    have n2 := (B1.ext hE).cell (i := 2) (v := u2) rfl
    go_wp2_with fail
    refine (sEqualGroups_any _ _ _ _ _ (i2.out _ hE) (j2.out _ hE)).mono ?_
    rintro e w2 ⟨rfl, hE'⟩
    replace hE := hE.trans hE'
    clear hE'
    clear m2 n2
    have m3 := (B0.ext hE).cell (i := 3) (v := .int .i64 c.a) rfl
    have n3 := (B1.ext hE).cell (i := 3) (v := .int .i64 d.a) rfl
    have m4 := (B0.ext hE).cell (i := 4) (v := .int .i64 c.b) rfl
    have n4 := (B1.ext hE).cell (i := 4) (v := .int .i64 d.b) rfl
    have m5 := (B0.ext hE).cell (i := 5) (v := .int .i64 c.s) rfl
    have n5 := (B1.ext hE).cell (i := 5) (v := .int .i64 d.s) rfl
    have m6 := (B0.ext hE).cell (i := 6) (v := .int .i64 c.p) rfl
    have n6 := (B1.ext hE).cell (i := 6) (v := .int .i64 d.p) rfl
    go_wp2_with fail
    go_ret
    exact ⟨ret_bool (by simp [eqC, Dk.out, Dg.out, Do.out, Da.out, Db.out, Ds.out, Dp.out]), e0.trans hE⟩
  have Dp := Lib.hid (show (c.p == d.p) = true by simp [cp])
  have yp := Dp.out
  have ep : (c.p != d.p) = false := by simp [cp]
  by_cases ct : c.t = d.t
  rotate_left
  · have Dt := Lib.hid (show decide (c.t = d.t) = false by simp [ct])
    have yt := Dt.out
    clear ck cg co ca cb cs cp ct
    go_enter Try.func15, Try.ntmps15
    go_wp2_with fail
    rw [← Hwb.out]
    refine (sEqualGroups_any _ _ _ _ _ (i1.out _ hE) (j1.out _ hE)).mono ?_
    rintro e w1 ⟨rfl, hE'⟩
    replace hE := hE.trans hE'
    clear hE'
    have m2 := (B0.ext hE).cell (i := 2) (v := v2) rfl
    have n2 := (B1.ext hE).cell (i := 2) (v := u2) rfl
    go_wp2_with fail
    refine (sEqualGroups_any _ _ _ _ _ (i2.out _ hE) (j2.out _ hE)).mono ?_
    rintro e w2 ⟨rfl, hE'⟩
    replace hE := hE.trans hE'
    clear hE'
    clear m2 n2
    have m3 := (B0.ext hE).cell (i := 3) (v := .int .i64 c.a) rfl
    have n3 := (B1.ext hE).cell (i := 3) (v := .int .i64 d.a) rfl
    have m4 := (B0.ext hE).cell (i := 4) (v := .int .i64 c.b) rfl
    have n4 := (B1.ext hE).cell (i := 4) (v := .int .i64 d.b) rfl
    have m5 := (B0.ext hE).cell (i := 5) (v := .int .i64 c.s) rfl
    have n5 := (B1.ext hE).cell (i := 5) (v := .int .i64 d.s) rfl
    have m6 := (B0.ext hE).cell (i := 6) (v := .int .i64 c.p) rfl
    have n6 := (B1.ext hE).cell (i := 6) (v := .int .i64 d.p) rfl
    have m7 := (B0.ext hE).cell (i := 7) (v := v3) rfl
    have n7 := (B1.ext hE).cell (i := 7) (v := u3) rfl
    go_wp2_with fail
    refine (l30Same_any _ _ _ _ _ (i3.out _ hE) (j3.out _ hE)).mono ?_
    rintro e w3 ⟨rfl, hE'⟩
    replace hE := hE.trans hE'
    clear hE'
    clear m3 n3 m4 n4 m5 n5 m6 n6 m7 n7
    go_wp2_with fail
    go_ret
    exact ⟨ret_bool (by simp [eqC, Dk.out, Dg.out, Do.out, Da.out, Db.out, Ds.out, Dp.out, Dt.out]), e0.trans hE⟩
  have Dt := Lib.hid (show decide (c.t = d.t) = true by simp [ct])
  have yt := Dt.out
  by_cases cq : c.q = d.q
  rotate_left
  · have Dq := Lib.hid (show decide (c.q = d.q) = false by simp [cq])
    have yq := Dq.out
    clear ck cg co ca cb cs cp ct cq
    go_enter Try.func15, Try.ntmps15
    go_wp2_with fail
    rw [← Hwb.out]
    refine (sEqualGroups_any _ _ _ _ _ (i1.out _ hE) (j1.out _ hE)).mono ?_
    rintro e w1 ⟨rfl, hE'⟩
    replace hE := hE.trans hE'
    clear hE'
    have m2 := (B0.ext hE).cell (i := 2) (v := v2) rfl
    have n2 := (B1.ext hE).cell (i := 2) (v := u2) rfl
    go_wp2_with fail
    refine (sEqualGroups_any _ _ _ _ _ (i2.out _ hE) (j2.out _ hE)).mono ?_
    rintro e w2 ⟨rfl, hE'⟩
    replace hE := hE.trans hE'
    clear hE'
    clear m2 n2
    have m3 := (B0.ext hE).cell (i := 3) (v := .int .i64 c.a) rfl
    have n3 := (B1.ext hE).cell (i := 3) (v := .int .i64 d.a) rfl
    have m4 := (B0.ext hE).cell (i := 4) (v := .int .i64 c.b) rfl
    have n4 := (B1.ext hE).cell (i := 4) (v := .int .i64 d.b) rfl
    have m5 := (B0.ext hE).cell (i := 5) (v := .int .i64 c.s) rfl
    have n5 := (B1.ext hE).cell (i := 5) (v := .int .i64 d.s) rfl
    have m6 := (B0.ext hE).cell (i := 6) (v := .int .i64 c.p) rfl
    have n6 := (B1.ext hE).cell (i := 6) (v := .int .i64 d.p) rfl
    have m7 := (B0.ext hE).cell (i := 7) (v := v3) rfl
    have n7 := (B1.ext hE).cell (i := 7) (v := u3) rfl
    go_wp2_with fail
    refine (l30Same_any _ _ _ _ _ (i3.out _ hE) (j3.out _ hE)).mono ?_
    rintro e w3 ⟨rfl, hE'⟩
    replace hE := hE.trans hE'
    clear hE'
    clear m3 n3 m4 n4 m5 n5 m6 n6 m7 n7
    have m8 := (B0.ext hE).cell (i := 8) (v := v4) rfl
    have n8 := (B1.ext hE).cell (i := 8) (v := u4) rfl
    go_wp2_with fail
    refine (l30Same_any _ _ _ _ _ (i4.out _ hE) (j4.out _ hE)).mono ?_
    rintro e w4 ⟨rfl, hE'⟩
    replace hE := hE.trans hE'
    clear hE'
    clear m8 n8
    go_wp2_with fail
    go_ret
    exact ⟨ret_bool (by simp [eqC, Dk.out, Dg.out, Do.out, Da.out, Db.out, Ds.out, Dp.out, Dt.out, Dq.out]), e0.trans hE⟩
  have Dq := Lib.hid (show decide (c.q = d.q) = true by simp [cq])
  have yq := Dq.out
  by_cases cn : c.n = d.n
  rotate_left
  · have Dn := Lib.hid (show (c.n == d.n) = false by simp [cn])
    have yn := Dn.out
    have en : (c.n != d.n) = true := by simp [cn]
    clear ck cg co ca cb cs cp ct cq cn
    go_enter Try.func15, Try.ntmps15
    go_wp2_with fail
    rw [← Hwb.out]
    refine (sEqualGroups_any _ _ _ _ _ (i1.out _ hE) (j1.out _ hE)).mono ?_
    rintro e w1 ⟨rfl, hE'⟩
    replace hE := hE.trans hE'
    clear hE'
    have m2 := (B0.ext hE).cell (i := 2) (v := v2) rfl
    have n2 := (B1.ext hE).cell (i := 2) (v := u2) rfl
    go_wp2_with fail
    refine (sEqualGroups_any _ _ _ _ _ (i2.out _ hE) (j2.out _ hE)).mono ?_
    rintro e w2 ⟨rfl, hE'⟩
    replace hE := hE.trans hE'
    clear hE'
    clear m2 n2
    have m3 := (B0.ext hE).cell (i := 3) (v := .int .i64 c.a) rfl
    have n3 := (B1.ext hE).cell (i := 3) (v := .int .i64 d.a) rfl
    have m4 := (B0.ext hE).cell (i := 4) (v := .int .i64 c.b) rfl
    have n4 := (B1.ext hE).cell (i := 4) (v := .int .i64 d.b) rfl
    have m5 := (B0.ext hE).cell (i := 5) (v := .int .i64 c.s) rfl
    have n5 := (B1.ext hE).cell (i := 5) (v := .int .i64 d.s) rfl
    have m6 := (B0.ext hE).cell (i := 6) (v := .int .i64 c.p) rfl
    have n6 := (B1.ext hE).cell (i := 6) (v := .int .i64 d.p) rfl
    have m7 := (B0.ext hE).cell (i := 7) (v := v3) rfl
    have n7 := (B1.ext hE).cell (i := 7) (v := u3) rfl
    go_wp2_with fail
    refine (l30Same_any _ _ _ _ _ (i3.out _ hE) (j3.out _ hE)).mono ?_
    rintro e w3 ⟨rfl, hE'⟩
    replace hE := hE.trans hE'
    clear hE'
    clear m3 n3 m4 n4 m5 n5 m6 n6 m7 n7
    have m8 := (B0.ext hE).cell (i := 8) (v := v4) rfl
    have n8 := (B1.ext hE).cell (i := 8) (v := u4) rfl
    go_wp2_with fail
    refine (l30Same_any _ _ _ _ _ (i4.out _ hE) (j4.out _ hE)).mono ?_
    rintro e w4 ⟨rfl, hE'⟩
    replace hE := hE.trans hE'
    clear hE'
    clear m8 n8
    have m9 := (B0.ext hE).cell (i := 9) (v := .int .i64 c.n) rfl
    have n9 := (B1.ext hE).cell (i := 9) (v := .int .i64 d.n) rfl
    go_wp2_with fail
    go_ret
    exact ⟨ret_bool (by simp [eqC, Dk.out, Dg.out, Do.out, Da.out, Db.out, Ds.out, Dp.out, Dt.out, Dq.out, Dn.out]), e0.trans hE⟩
  have Dn := Lib.hid (show (c.n == d.n) = true by simp [cn])
  have yn := Dn.out
  have en : (c.n != d.n) = false := by simp [cn]
  clear ck cg co ca cb cs cp ct cq cn
  go_enter Try.func15, Try.ntmps15
  go_wp2_with fail
  rw [← Hwb.out]
  refine (sEqualGroups_any _ _ _ _ _ (i1.out _ hE) (j1.out _ hE)).mono ?_
  rintro e w1 ⟨rfl, hE'⟩
  replace hE := hE.trans hE'
  clear hE'
  have m2 := (B0.ext hE).cell (i := 2) (v := v2) rfl
  have n2 := (B1.ext hE).cell (i := 2) (v := u2) rfl
  go_wp2_with fail
  refine (sEqualGroups_any _ _ _ _ _ (i2.out _ hE) (j2.out _ hE)).mono ?_
  rintro e w2 ⟨rfl, hE'⟩
  replace hE := hE.trans hE'
  clear hE'
  clear m2 n2
  have m3 := (B0.ext hE).cell (i := 3) (v := .int .i64 c.a) rfl
  have n3 := (B1.ext hE).cell (i := 3) (v := .int .i64 d.a) rfl
  have m4 := (B0.ext hE).cell (i := 4) (v := .int .i64 c.b) rfl
  have n4 := (B1.ext hE).cell (i := 4) (v := .int .i64 d.b) rfl
  have m5 := (B0.ext hE).cell (i := 5) (v := .int .i64 c.s) rfl
  have n5 := (B1.ext hE).cell (i := 5) (v := .int .i64 d.s) rfl
  have m6 := (B0.ext hE).cell (i := 6) (v := .int .i64 c.p) rfl
  have n6 := (B1.ext hE).cell (i := 6) (v := .int .i64 d.p) rfl
  have m7 := (B0.ext hE).cell (i := 7) (v := v3) rfl
  have n7 := (B1.ext hE).cell (i := 7) (v := u3) rfl
  go_wp2_with fail
  refine (l30Same_any _ _ _ _ _ (i3.out _ hE) (j3.out _ hE)).mono ?_
  rintro e w3 ⟨rfl, hE'⟩
  replace hE := hE.trans hE'
  clear hE'
  clear m3 n3 m4 n4 m5 n5 m6 n6 m7 n7
  have m8 := (B0.ext hE).cell (i := 8) (v := v4) rfl
  have n8 := (B1.ext hE).cell (i := 8) (v := u4) rfl
  go_wp2_with fail
  refine (l30Same_any _ _ _ _ _ (i4.out _ hE) (j4.out _ hE)).mono ?_
  rintro e w4 ⟨rfl, hE'⟩
  replace hE := hE.trans hE'
  clear hE'
  clear m8 n8
  have m9 := (B0.ext hE).cell (i := 9) (v := .int .i64 c.n) rfl
  have n9 := (B1.ext hE).cell (i := 9) (v := .int .i64 d.n) rfl
  go_wp2_with fail
  go_ret
  exact ⟨ret_bool (by simp [eqC, Dk.out, Dg.out, Do.out, Da.out, Db.out, Ds.out, Dp.out, Dt.out, Dq.out, Dn.out]), e0.trans hE⟩
end Go.Zz
