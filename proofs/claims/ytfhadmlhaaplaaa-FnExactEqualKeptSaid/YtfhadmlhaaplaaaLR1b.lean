/- EqualKept of the program and of the reference return the same for all arguments. Conditions: none. -/
import Derived.Test.YtfhadmlhaaplaaaC8
import Derived.Test.YtfhadmlhaaplaaaOp
import Derived.Test.YtfhadmlhaaplaaaRows
import Derived.Deep.RegionHeld3
import Derived.Deep.DeepCutAuto
namespace Go.Proofs.Ytfhadmlhaaplaaa
open Go.ChangeShapes Go.WideShapes Go.ChangeAt Go.RowKit Go.Zz
set_option maxHeartbeats 1000000
set_option linter.unusedVariables false

theorem FnExactEqualKept_walk0 {w : World} (v u v' u' : Value) (l m : List Int) (n : Int) (l' m' : List Int) (n' : Int) (hv : Ints w v l) (hu : Ints w u m) (hv' : Ints w v' l') (hu' : Ints w u' m') :
    Calls Try.prog 6 #[.agg #[v, .int .i64 n, u], .agg #[v', .int .i64 n', u']] w fun e w' => e = .returned (.bool true) ∧ Ext w w' := by
  obtain ⟨wb, hwb⟩ : ∃ wb, wb = (w.alloc (.cells #[v, .int .i64 n, u] 33)).alloc (.cells #[v', .int .i64 n', u'] 33) := ⟨_, rfl⟩
  have e0 : Ext w wb := by rw [hwb]; exact ((Ext.refl _).alloc _).alloc _
  have B0 : Blk wb w.heap.size 33 #[v, .int .i64 n, u] := by rw [hwb]; exact (Blk.new _ _ _).alloc _
  have B1 : Blk wb (w.heap.size + 1) 33 #[v', .int .i64 n', u'] := by rw [hwb]; simpa using Blk.new (w.alloc (.cells #[v, .int .i64 n, u] 33)) 33 #[v', .int .i64 n', u']
  have a0 := fun W (hW : Ext wb W) => (B0.ext hW).cell (i := 0) (v := v) rfl
  have a1 := fun W (hW : Ext wb W) => (B0.ext hW).cell (i := 1) (v := .int .i64 n) rfl
  have a2 := fun W (hW : Ext wb W) => (B0.ext hW).cell (i := 2) (v := u) rfl
  have b0 := fun W (hW : Ext wb W) => (B1.ext hW).cell (i := 0) (v := v') rfl
  have b1 := fun W (hW : Ext wb W) => (B1.ext hW).cell (i := 1) (v := .int .i64 n') rfl
  have b2 := fun W (hW : Ext wb W) => (B1.ext hW).cell (i := 2) (v := u') rfl
  have hc : ∀ W, Ext wb W → IsK W (.agg #[v, .int .i64 n, u]) l n m := fun W hW => ⟨v, u, rfl, hv.ext (e0.trans hW), hu.ext (e0.trans hW)⟩
  have hd : ∀ W, Ext wb W → IsK W (.agg #[v', .int .i64 n', u']) l' n' m' := fun W hW => ⟨v', u', rfl, hv'.ext (e0.trans hW), hu'.ext (e0.trans hW)⟩
  have hE := Ext.refl wb
  have Hwb := Lib.hid hwb
  clear hwb B0 B1 hv hu hv' hu'
  by_cases s1 : szK l m 1048576 < 0
  · go_enter Try.func6, Try.ntmps6
    go_wp2_with fail
    rw [← Hwb.out]
    refine (szKept_any _ _ _ _ _ _ (hc _ hE) (by omega) (by omega)).mono ?_
    rintro e w1 ⟨rfl, hE1⟩
    go_wp2_with fail
    go_ret
    exact ⟨rfl, e0.trans hE1⟩
  · have s1' : 0 ≤ szK l m 1048576 := by omega
    have s2' : szK l m 1048576 ≤ 1048576 := by
      unfold szK at s1' ⊢
      split
      · omega
      · rename_i h; have := szL_cases l (show (0:Int) ≤ 1048576 by omega); have := szL_cases m (show 0 ≤ szL l 1048576 by omega); omega
    clear s1
    by_cases s3 : szK l' m' (szK l m 1048576) < 0
    · go_enter Try.func6, Try.ntmps6
      go_wp2_with fail
      rw [← Hwb.out]
      refine (szKept_any _ _ _ _ _ _ (hc _ hE) (by omega) (by omega)).mono ?_
      rintro e w1 ⟨rfl, hE1⟩
      have f0 := b0 _ hE1
      go_wp2_with fail
      refine (szKept_any _ _ _ _ _ _ (hd _ hE1) (by omega) (by omega)).mono ?_
      rintro e w2 ⟨rfl, hE2⟩
      go_wp2_with fail
      go_ret
      exact ⟨rfl, e0.trans (hE1.trans hE2)⟩
    · have s3' : 0 ≤ szK l' m' (szK l m 1048576) := by omega
      clear s3
      go_enter Try.func6, Try.ntmps6
      go_wp2_with fail
      rw [← Hwb.out]
      refine (szKept_any _ _ _ _ _ _ (hc _ hE) (by omega) (by omega)).mono ?_
      rintro e w1 ⟨rfl, hE1⟩
      go_wp2_with fail
      refine (szKept_any _ _ _ _ _ _ (hd _ hE1) (by omega) (by omega)).mono ?_
      rintro e w2 ⟨rfl, hE2⟩
      replace hE := hE1.trans hE2
      clear hE1 hE2
      replace a0 := fun W hW => a0 W (hE.trans hW)
      replace a1 := fun W hW => a1 W (hE.trans hW)
      replace a2 := fun W hW => a2 W (hE.trans hW)
      replace b0 := fun W hW => b0 W (hE.trans hW)
      replace b1 := fun W hW => b1 W (hE.trans hW)
      replace b2 := fun W hW => b2 W (hE.trans hW)
      replace hc := fun W hW => hc W (hE.trans hW)
      replace hd := fun W hW => hd W (hE.trans hW)
      go_wp2_with fail
      have hD := (Ext.refl (w2)).drew
      go_region_held3 (fun W => Ext (w2) W ∧ W.cell? ⟨w.heap.size, 0, none⟩ = some v ∧ W.cell? ⟨w.heap.size, 1, none⟩ = some (.int .i64 n) ∧ W.cell? ⟨w.heap.size, 2, none⟩ = some u ∧ W.cell? ⟨w.heap.size + 1, 0, none⟩ = some v' ∧ W.cell? ⟨w.heap.size + 1, 1, none⟩ = some (.int .i64 n') ∧ W.cell? ⟨w.heap.size + 1, 2, none⟩ = some u') (exact ⟨(by assumption), a0 _ (by assumption), a1 _ (by assumption), a2 _ (by assumption), b0 _ (by assumption), b1 _ (by assumption), b2 _ (by assumption)⟩) (first | (go_at_call 20; ((with_reducible refine (toKept_any (.agg #[v, .int .i64 n, u]) _ _ _ _ (hc _ (by assumption))).mono ?_); rintro e wH0 ⟨c1, rfl, hK1, hX0⟩; have hH0 := Ext.trans (a := w2) (by assumption) hX0)) | (go_at_call 20; ((with_reducible refine (toKept_any (.agg #[v', .int .i64 n', u']) _ _ _ _ (hd _ (by assumption))).mono ?_); rintro e wH1 ⟨c2, rfl, hK2, hX1⟩; have hH1 := Ext.trans (a := w2) (by assumption) hX1)) | (go_at_call 19; ((with_reducible refine (sEqualKept_any _ _ _ _ _ _ _ _ _ (hK1.isK.ext (by assumption)) hK2.isK).mono ?_); rintro e wH2 ⟨rfl, hX2⟩; have hH2 := Ext.trans (a := w2) (by assumption) hX2)))
      replace hc := fun W hW => hc W (hH2.trans hW)
      replace hd := fun W hW => hd W (hH2.trans hW)
      have A0 := fun W hW => a0 W (hH2.trans hW)
      have A1 := fun W hW => a1 W (hH2.trans hW)
      have A2 := fun W hW => a2 W (hH2.trans hW)
      have D0 := fun W hW => b0 W (hH2.trans hW)
      have D1 := fun W hW => b1 W (hH2.trans hW)
      have D2 := fun W hW => b2 W (hH2.trans hW)
      have eW := (e0.trans hE).trans hH2
      clear a0 a1 a2 b0 b1 b2 hD hH0 hH1 hX0 hX1 hX2 hK1 hK2 hE e0
      have z0 := A0 _ (Ext.refl wH2)
      have z1 := A1 _ (Ext.refl wH2)
      have z2 := A2 _ (Ext.refl wH2)
      go_wp2_with fail
      refine (toKept_any _ _ _ _ _ (hc _ (Ext.refl _))).mono ?_
      rintro e w5 ⟨c3, rfl, ⟨v3, u3, rfl, hO3, hP3⟩, hE5⟩
      obtain ⟨ao3, k3, rfl, -⟩ := hO3.shape
      obtain ⟨ap3, j3, rfl, -⟩ := hP3.shape
      clear z0 z1 z2
      have hE5' := hE5.alloc (.cells #[.slice ao3 l.length k3, .int .i64 n, .slice ap3 m.length j3] 38)
      have z0 := D0 _ hE5'
      have z1 := D1 _ hE5'
      have z2 := D2 _ hE5'
      go_wp2_with fail
      refine (toKept_any _ _ _ _ _ (hd _ hE5')).mono ?_
      rintro e w6 ⟨c4, rfl, ⟨v4, u4, rfl, hO4, hP4⟩, hE6⟩
      obtain ⟨ao4, k4, rfl, -⟩ := hO4.shape
      obtain ⟨ap4, j4, rfl, -⟩ := hP4.shape
      clear z0 z1 z2
      have BX := (Blk.new w5 38 #[.slice ao3 l.length k3, .int .i64 n, .slice ap3 m.length j3]).ext (hE6.alloc (.cells #[.slice ao4 l'.length k4, .int .i64 n', .slice ap4 m'.length j4] 38))
      have BY := Blk.new w6 38 #[.slice ao4 l'.length k4, .int .i64 n', .slice ap4 m'.length j4]
      have hK3 : IsK (w6.alloc (.cells #[.slice ao4 l'.length k4, .int .i64 n', .slice ap4 m'.length j4] 38)) (.agg #[.slice ao3 l.length k3, .int .i64 n, .slice ap3 m.length j3]) l n m :=
        ⟨_, _, rfl, ((hO3.ints.ext ((Ext.refl _).alloc _)).ext hE6).ext ((Ext.refl _).alloc _), ((hP3.ints.ext ((Ext.refl _).alloc _)).ext hE6).ext ((Ext.refl _).alloc _)⟩
      have hK4 : IsK (w6.alloc (.cells #[.slice ao4 l'.length k4, .int .i64 n', .slice ap4 m'.length j4] 38)) (.agg #[.slice ao4 l'.length k4, .int .i64 n', .slice ap4 m'.length j4]) l' n' m' :=
        ⟨_, _, rfl, hO4.ints.ext ((Ext.refl _).alloc _), hP4.ints.ext ((Ext.refl _).alloc _)⟩
      have hE7 := hE5'.trans (hE6.alloc (.cells #[.slice ao4 l'.length k4, .int .i64 n', .slice ap4 m'.length j4] 38))
      clear hO3 hP3 hO4 hP4 hE5 hE5' hE6
      have z0 := BX.cell (i := 0) (v := .slice ao3 l.length k3) rfl
      have z1 := BX.cell (i := 1) (v := .int .i64 n) rfl
      have z2 := BX.cell (i := 2) (v := .slice ap3 m.length j3) rfl
      go_wp2_with fail
      refine (EqualKept_any _ _ _ _ _ _ _ _ _ hK3 hK4).mono ?_
      rintro e w7 ⟨rfl, hE8⟩
      clear z0 z1 z2
      replace hc := fun W (hW : Ext w7 W) => hc W (hE7.trans (hE8.trans hW))
      replace hd := fun W (hW : Ext w7 W) => hd W (hE7.trans (hE8.trans hW))
      replace A0 := fun W (hW : Ext w7 W) => A0 W (hE7.trans (hE8.trans hW))
      replace A1 := fun W (hW : Ext w7 W) => A1 W (hE7.trans (hE8.trans hW))
      replace A2 := fun W (hW : Ext w7 W) => A2 W (hE7.trans (hE8.trans hW))
      replace D0 := fun W (hW : Ext w7 W) => D0 W (hE7.trans (hE8.trans hW))
      replace D1 := fun W (hW : Ext w7 W) => D1 W (hE7.trans (hE8.trans hW))
      replace D2 := fun W (hW : Ext w7 W) => D2 W (hE7.trans (hE8.trans hW))
      have X0 := fun W (hW : Ext w7 W) => (BX.ext (hE8.trans hW)).cell (i := 0) (v := .slice ao3 l.length k3) rfl
      have X1 := fun W (hW : Ext w7 W) => (BX.ext (hE8.trans hW)).cell (i := 1) (v := .int .i64 n) rfl
      have X2 := fun W (hW : Ext w7 W) => (BX.ext (hE8.trans hW)).cell (i := 2) (v := .slice ap3 m.length j3) rfl
      have Y0 := fun W (hW : Ext w7 W) => (BY.ext (hE8.trans hW)).cell (i := 0) (v := .slice ao4 l'.length k4) rfl
      have Y1 := fun W (hW : Ext w7 W) => (BY.ext (hE8.trans hW)).cell (i := 1) (v := .int .i64 n') rfl
      have Y2 := fun W (hW : Ext w7 W) => (BY.ext (hE8.trans hW)).cell (i := 2) (v := .slice ap4 m'.length j4) rfl
      replace hK3 := hK3.ext hE8
      replace hK4 := hK4.ext hE8
      replace eW := eW.trans (hE7.trans hE8)
      clear BX BY hE7 hE8
      have hq : eqK l m n l m n = true := by simp [eqK]
      have hq' : eqK l' m' n' l' m' n' = true := by simp [eqK]
      go_wp2_with fail
      have hD := (Ext.refl (w7)).drew
      go_region_held3 (fun W => Ext (w7) W ∧ W.cell? ⟨w5.heap.size, 0, none⟩ = some (.slice ao3 l.length k3) ∧ W.cell? ⟨w5.heap.size, 1, none⟩ = some (.int .i64 n) ∧ W.cell? ⟨w5.heap.size, 2, none⟩ = some (.slice ap3 m.length j3) ∧ W.cell? ⟨w.heap.size, 0, none⟩ = some v ∧ W.cell? ⟨w.heap.size, 1, none⟩ = some (.int .i64 n) ∧ W.cell? ⟨w.heap.size, 2, none⟩ = some u) (exact ⟨(by assumption), X0 _ (by assumption), X1 _ (by assumption), X2 _ (by assumption), A0 _ (by assumption), A1 _ (by assumption), A2 _ (by assumption)⟩) (first | (go_at_call 20; ((with_reducible refine (toKept_any _ _ _ _ _ (hc _ (by assumption))).mono ?_); rintro e wH0 ⟨c5, rfl, hK5, hX0⟩; have hH0 := Ext.trans (a := w7) (by assumption) hX0)) | (go_at_call 22; ((with_reducible refine (eqKept_any _ _ _ _ _ _ _ _ _ (hK3.ext (by assumption)) hK5.isK).mono ?_); rintro e wH1 ⟨rfl, hX1⟩; have hH1 := Ext.trans (a := w7) (by assumption) hX1)))
      have hH := hH1
      clear hD hH0 hH1 hX0 hX1 hK5
      replace hd := fun W (hW : Ext wH1 W) => hd W (hH.trans hW)
      replace D0 := fun W (hW : Ext wH1 W) => D0 W (hH.trans hW)
      replace D1 := fun W (hW : Ext wH1 W) => D1 W (hH.trans hW)
      replace D2 := fun W (hW : Ext wH1 W) => D2 W (hH.trans hW)
      replace Y0 := fun W (hW : Ext wH1 W) => Y0 W (hH.trans hW)
      replace Y1 := fun W (hW : Ext wH1 W) => Y1 W (hH.trans hW)
      replace Y2 := fun W (hW : Ext wH1 W) => Y2 W (hH.trans hW)
      replace hK4 := hK4.ext hH
      replace eW := eW.trans hH
      clear X0 X1 X2 A0 A1 A2 hc hK3
      clear hH
      obtain ⟨w8, h8⟩ : ∃ w8, w8 = wH1 := ⟨_, rfl⟩
      subst h8
      go_wp2_with fail
      have hD := (Ext.refl (w8)).drew
      go_region_held3 (fun W => Ext (w8) W ∧ W.cell? ⟨w6.heap.size, 0, none⟩ = some (.slice ao4 l'.length k4) ∧ W.cell? ⟨w6.heap.size, 1, none⟩ = some (.int .i64 n') ∧ W.cell? ⟨w6.heap.size, 2, none⟩ = some (.slice ap4 m'.length j4) ∧ W.cell? ⟨w.heap.size + 1, 0, none⟩ = some v' ∧ W.cell? ⟨w.heap.size + 1, 1, none⟩ = some (.int .i64 n') ∧ W.cell? ⟨w.heap.size + 1, 2, none⟩ = some u') (exact ⟨(by assumption), Y0 _ (by assumption), Y1 _ (by assumption), Y2 _ (by assumption), D0 _ (by assumption), D1 _ (by assumption), D2 _ (by assumption)⟩) (first | (go_at_call 20; ((with_reducible refine (toKept_any _ _ _ _ _ (hd _ (by assumption))).mono ?_); rintro e wH0 ⟨c6, rfl, hK6, hX0⟩; have hH0 := Ext.trans (a := w8) (by assumption) hX0)) | (go_at_call 22; ((with_reducible refine (eqKept_any _ _ _ _ _ _ _ _ _ (hK4.ext (by assumption)) hK6.isK).mono ?_); rintro e wH1 ⟨rfl, hX1⟩; have hH1 := Ext.trans (a := w8) (by assumption) hX1)))
      go_wp2_with fail
      go_ret
      exact ⟨rfl, eW.trans hH1⟩

theorem FnExactEqualKept_walk {w : World} {v u v' u' : Value} {l m : List Int} {n : Int} {l' m' : List Int} {n' : Int} (hv : Ints w v l) (hu : Ints w u m) (_ : (Lit.int .i64 n).wf = true) (hv' : Ints w v' l') (hu' : Ints w u' m') (_ : (Lit.int .i64 n').wf = true) :
    Calls Try.prog 6 #[.agg #[v, .int .i64 n, u], .agg #[v', .int .i64 n', u']] w fun e w' => e = .returned (.bool true) ∧ Ext w w' :=
  FnExactEqualKept_walk0 v u v' u' l m n l' m' n' hv hu hv' hu'
namespace fnExactEqualKept
theorem own : ownKnob Try.prog.godebug = none := by kernel_rfl
theorem laidOut : laidOutB Try.prog = true := by kernel_rfl
set_option maxRecDepth 100000 in
theorem lifted (os : Os) (started : os.Started) (H : Type) (enc : TypeId × Value → H) :
    ReturnsInHanded {} Try.checked os 6 .any (Rows.fnExactEqualKeptSpec.pre6 enc Try.prog Try.f6 Rows.fnExactEqualKeptRow.domain false) (Rows.fnExactEqualKeptSpec.post enc Try.prog Try.f6 false true false false) := by
  refine returnsInHanded_of_change_sized (C := Try.checked) own started (by kernel_rfl) Try.func6
    (ChangeSpec.witness6 (enc := enc) (C := Try.checked) false ⟨#[], #[.agg #[.slice none 0 0, .int .i64 0, .slice none 0 0], .agg #[.slice none 0 0, .int .i64 0, .slice none 0 0]], []⟩ 8 (by kernel_rfl) (by kernel_rfl) (by kernel_rfl) (by kernel_rfl)) ?_
  intro W base args ds gs before hval0 hW hcnd hsz0 _
  have hval : ∀ (j : Nat) t v, Try.f6.params[j]? = some t → args[j]? = some v → Value.okWide Try.prog W .any base t v := hval0
  have hsz : (DataW.weightsEach Try.prog (Try.f6.params.toList ++ Rows.fnExactEqualKeptSpec.plain.varTypes Try.prog) (ds ++ gs)).all (· ≤ reachBytes) = true := hsz0
  have hW' := hW
  obtain ⟨p, q, hA0, hV, rfl, hfz, hnd⟩ := hW
  have hA : DataW.TrodAll enc Try.prog W 0 (fun _ => true) true Try.f6.params.toList args.toList ds p := hA0
  rw [Try.params6] at hA hval hsz
  obtain ⟨v0, vs0, d0, ds0, p0, q0, hargs, rfl, rfl, h0, r0⟩ := trodAll_cons hA
  obtain ⟨v1, vs1, d1, ds1, p1, q1, rfl, rfl, rfl, h1, r1⟩ := trodAll_cons r0
  obtain ⟨rfl, rfl, rfl⟩ := trodAll_nil r1
  obtain rfl : args = #[v0, v1] := by cases args; simp_all
  obtain ⟨rfl, rfl⟩ := trodVars_none hV
  have k0 := h0
  have lt0 : ∀ x ∈ p0, x.block < W.heap.size := by obtain ⟨m, hm⟩ := k0; exact DataW.trod_lt m _ _ _ hm
  have wt0 := weights_arg hsz (j := 0) (t := 33) (d := d0) rfl rfl
  obtain ⟨u0, n0, t0, l0, m0, rfl, hI0, hJ0, wn0⟩ := kept_arg Try.underlying33 (by kernel_rfl) rfl rfl rfl (by kernel_rfl) Try.underlying31 (by kernel_rfl) rfl Try.underlying26 Try.underlying3 (by kernel_rfl) (by kernel_rfl) (hval 0 33 v0 rfl rfl) h0 wt0
  have k1 := h1
  have lt1 : ∀ x ∈ p1, x.block < W.heap.size := by obtain ⟨m, hm⟩ := k1; exact DataW.trod_lt m _ _ _ hm
  have wt1 := weights_arg hsz (j := 1) (t := 33) (d := d1) rfl rfl
  obtain ⟨u1, n1, t1, l1, m1, rfl, hI1, hJ1, wn1⟩ := kept_arg Try.underlying33 (by kernel_rfl) rfl rfl rfl (by kernel_rfl) Try.underlying31 (by kernel_rfl) rfl Try.underlying26 Try.underlying3 (by kernel_rfl) (by kernel_rfl) (hval 1 33 v1 rfl rfl) h1 wt1
  refine (FnExactEqualKept_walk hI0 hJ0 wn0 hI1 hJ1 wn1).mono fun e W' ⟨he, bel⟩ => ?_
  subst he
  exact ⟨_, rfl, _, _, _, [], _, [], hW', trodAll_mk1 (shut_bool Try.underlying4 _), (trodAll_cons_mk (Below.trod laidOut (by kernel_rfl) (of_decide_eq_true (by kernel_rfl)) k0 bel lt0) (trodAll_cons_mk (Below.trod laidOut (by kernel_rfl) (of_decide_eq_true (by kernel_rfl)) k1 bel lt1) trodAll_mk0)), rfl, bel.frame _, fun h => by cases h⟩
theorem over : Rows.fnExactEqualKeptRow.holds Try.pinned (OpenSpec.ofChange Rows.fnExactEqualKeptSpec) :=
  OpenClaim.holds_of_wide 6 Try.f6 rfl rfl rfl rfl rfl rfl rfl ⟨rfl, rfl, rfl, rfl, rfl⟩ rfl rfl rfl rfl rfl (by kernel_rfl) Try.func6 (by kernel_rfl)
    (of_decide_eq_true (by kernel_rfl)) (by unfold Func.isWrapper; first | (rw [if_pos (by decide +kernel)]; kernel_rfl) | (rw [if_neg (by decide +kernel)]; exact ⟨rfl, rfl⟩))
    (fun os started H enc _ => lifted os started H enc)
theorem proved : Rows.FnExactEqualKeptSaid := over
end fnExactEqualKept
end Go.Proofs.Ytfhadmlhaaplaaa
