/- SumsOfKept of the program and of the reference return the same for all arguments. Conditions: none. -/
import Derived.Test.YtopdmgfbpdcnlaaC4
import Derived.Deep.RegionHeld3
import Derived.Deep.RegionWith
import Derived.Deep.DeepCutAuto
import Derived.Test.YtopdmgfbpdcnlaaC8
import Derived.Test.YtopdmgfbpdcnlaaC28
import Derived.Test.YtopdmgfbpdcnlaaOp
import Derived.Test.YtopdmgfbpdcnlaaRows
namespace Go.Proofs.Ytopdmgfbpdcnlaa
open Go.ChangeShapes Go.WideShapes Go.ChangeAt Go.RowKit Go.Zz
set_option maxHeartbeats 400000
set_option linter.unusedVariables false

theorem FnExactSumsOfKept_walk {w : World} {v u : Value} {l m : List Int} {n : Int} (hv : Ints w v l) (hu : Ints w u m) (_ : (Lit.int .i64 n).wf = true) :
    Calls Try.prog 10 #[.agg #[v, .int .i64 n, u]] w fun e w' => e = .returned (.bool true) ∧ Ext w w' := by
  obtain ⟨wb, hwb⟩ : ∃ wb, wb = w.alloc (.cells #[v, .int .i64 n, u] 45) := ⟨_, rfl⟩
  have e0 : Ext w wb := by rw [hwb]; exact (Ext.refl _).alloc _
  have B0 : Blk wb w.heap.size 45 #[v, .int .i64 n, u] := by rw [hwb]; exact Blk.new _ _ _
  have a0 : ∀ W, Ext wb W → W.cell? ⟨w.heap.size, 0, none⟩ = some v := fun W hW => (B0.ext hW).cell (i := 0) rfl
  have a1 : ∀ W, Ext wb W → W.cell? ⟨w.heap.size, 1, none⟩ = some (.int .i64 n) := fun W hW => (B0.ext hW).cell (i := 1) rfl
  have a2 : ∀ W, Ext wb W → W.cell? ⟨w.heap.size, 2, none⟩ = some u := fun W hW => (B0.ext hW).cell (i := 2) rfl
  have hc : ∀ W, Ext wb W → IsK W (.agg #[v, .int .i64 n, u]) l n m := fun W hW => ⟨v, u, rfl, hv.ext (e0.trans hW), hu.ext (e0.trans hW)⟩
  have hE := Ext.refl wb
  have Hwb := Lib.hid hwb
  clear hwb B0 hv hu
  by_cases s1 : szK l m 1048576 < 0
  · go_enter Try.func10, Try.ntmps10
    go_wp2_with fail
    rw [← Hwb.out]
    refine (szKept_any _ _ _ _ _ _ (hc _ hE) (by omega) (by omega)).mono ?_
    rintro e w1 ⟨rfl, hE1⟩
    go_wp2_with fail
    go_ret
    exact ⟨rfl, e0.trans hE1⟩
  · have s1' : 0 ≤ szK l m 1048576 := by omega
    clear s1
    go_enter Try.func10, Try.ntmps10
    go_wp2_with fail
    rw [← Hwb.out]
    refine (szKept_any _ _ _ _ _ _ (hc _ hE) (by omega) (by omega)).mono ?_
    rintro e w1 ⟨rfl, hE1⟩
    have z0 := a0 _ hE1
    have z1 := a1 _ hE1
    have z2 := a2 _ hE1
    go_wp2_with fail
    refine (toKept_any _ _ _ _ _ (hc _ hE1)).mono ?_
    rintro e w2 ⟨c2, rfl, hK2, hE2⟩
    obtain ⟨v2, u2, rfl, hO2, hP2⟩ := hK2
    go_wp2_with fail
    refine (sSumsOfKept_any _ _ _ _ _ ⟨_, _, rfl, hO2.ints, hP2.ints⟩).mono ?_
    rintro e w3 ⟨rfl, hE3⟩
    have hEc := hE1.trans (hE2.trans hE3)
    clear z0 z1 z2 hE1 hE2 hE3
    have z0 := a0 _ hEc
    have z1 := a1 _ hEc
    have z2 := a2 _ hEc
    go_wp2_with fail
    refine (toKept_any _ _ _ _ _ (hc _ hEc)).mono ?_
    rintro e w4 ⟨c4, rfl, ⟨v4, u4, rfl, hO4, hP4⟩, hE4⟩
    obtain ⟨ao4, k4, rfl, -⟩ := hO4.shape
    obtain ⟨ap4, j4, rfl, -⟩ := hP4.shape
    clear z0 z1 z2
    have BX := Blk.new w4 33 #[.slice ao4 l.length k4, .int .i64 n, .slice ap4 m.length j4]
    have hE4' := hE4.alloc (.cells #[.slice ao4 l.length k4, .int .i64 n, .slice ap4 m.length j4] 33)
    have hK4 : IsK (w4.alloc (.cells #[.slice ao4 l.length k4, .int .i64 n, .slice ap4 m.length j4] 33)) (.agg #[.slice ao4 l.length k4, .int .i64 n, .slice ap4 m.length j4]) l n m :=
      ⟨_, _, rfl, hO4.ints.ext ((Ext.refl _).alloc _), hP4.ints.ext ((Ext.refl _).alloc _)⟩
    have z0 := BX.cell (i := 0) (v := .slice ao4 l.length k4) rfl
    have z1 := BX.cell (i := 1) (v := .int .i64 n) rfl
    have z2 := BX.cell (i := 2) (v := .slice ap4 m.length j4) rfl
    clear hO4 hP4 hE4
    go_wp2_with fail
    refine (SumsOfKept_any _ _ _ _ _ hK4).mono ?_
    rintro e w5 ⟨rfl, hE5⟩
    clear z0 z1 z2
    have hEd := hEc.trans (hE4'.trans hE5)
    replace hc := fun W (hW : Ext w5 W) => hc W (hEd.trans hW)
    replace a0 := fun W (hW : Ext w5 W) => a0 W (hEd.trans hW)
    replace a1 := fun W (hW : Ext w5 W) => a1 W (hEd.trans hW)
    replace a2 := fun W (hW : Ext w5 W) => a2 W (hEd.trans hW)
    have X0 := fun W (hW : Ext w5 W) => (BX.ext (hE5.trans hW)).cell (i := 0) (v := .slice ao4 l.length k4) rfl
    have X1 := fun W (hW : Ext w5 W) => (BX.ext (hE5.trans hW)).cell (i := 1) (v := .int .i64 n) rfl
    have X2 := fun W (hW : Ext w5 W) => (BX.ext (hE5.trans hW)).cell (i := 2) (v := .slice ap4 m.length j4) rfl
    replace hK4 := hK4.ext hE5
    have eW := e0.trans hEd
    clear BX hE4' hE5 hEd hEc
    have hq : eqK l m n l m n = true := by simp [eqK]
    go_wp2_with fail
    have hD := (Ext.refl (w5)).drew
    first | (go_region_held3 (fun W => Ext (w5) W ∧ W.cell? ⟨w4.heap.size, 0, none⟩ = some (.slice ao4 l.length k4) ∧ W.cell? ⟨w4.heap.size, 1, none⟩ = some (.int .i64 n) ∧ W.cell? ⟨w4.heap.size, 2, none⟩ = some (.slice ap4 m.length j4) ∧ W.cell? ⟨w.heap.size, 0, none⟩ = some v ∧ W.cell? ⟨w.heap.size, 1, none⟩ = some (.int .i64 n) ∧ W.cell? ⟨w.heap.size, 2, none⟩ = some u) (exact ⟨(by repeat (first | assumption | exact Ext.refl _ | (apply And.left; assumption) | apply Ext.drew | apply Ext.alloc)), X0 _ (by repeat (first | assumption | exact Ext.refl _ | (apply And.left; assumption) | apply Ext.drew | apply Ext.alloc)), X1 _ (by repeat (first | assumption | exact Ext.refl _ | (apply And.left; assumption) | apply Ext.drew | apply Ext.alloc)), X2 _ (by repeat (first | assumption | exact Ext.refl _ | (apply And.left; assumption) | apply Ext.drew | apply Ext.alloc)), a0 _ (by repeat (first | assumption | exact Ext.refl _ | (apply And.left; assumption) | apply Ext.drew | apply Ext.alloc)), a1 _ (by repeat (first | assumption | exact Ext.refl _ | (apply And.left; assumption) | apply Ext.drew | apply Ext.alloc)), a2 _ (by repeat (first | assumption | exact Ext.refl _ | (apply And.left; assumption) | apply Ext.drew | apply Ext.alloc))⟩) (first | (go_at_call 36; ((with_reducible refine Calls.mono (toKept_any _ _ _ _ _ (hc _ (by assumption))) ?_); rintro e wH0 ⟨c5, rfl, hK5, hX0⟩; have hH0 := Ext.trans (a := w5) (by repeat (first | assumption | exact Ext.refl _ | (apply And.left; assumption) | apply Ext.drew | apply Ext.alloc)) hX0)) | (go_at_call 22; ((with_reducible refine Calls.mono (eqKept_any _ _ _ _ _ _ _ _ _ (hK4.ext (by assumption)) hK5.isK) ?_); rintro e wH1 ⟨rfl, hX1⟩; have hH1 := Ext.trans (a := w5) (by repeat (first | assumption | exact Ext.refl _ | (apply And.left; assumption) | apply Ext.drew | apply Ext.alloc)) hX1)))) | (fail "the region with calls")
    go_wp2_with fail
    go_ret
    exact ⟨rfl, eW.trans (by repeat (first | assumption | exact Ext.refl _ | (apply And.left; assumption) | apply Ext.drew | apply Ext.alloc))⟩

namespace fnExactSumsOfKept
theorem own : ownKnob Try.prog.godebug = none := by kernel_rfl
theorem laidOut : laidOutB Try.prog = true := by kernel_rfl
set_option maxRecDepth 100000 in
theorem lifted (os : Os) (started : os.Started) (H : Type) (enc : TypeId × Value → H) :
    ReturnsInHanded {} Try.checked os 10 .any (Rows.fnExactSumsOfKeptSpec.pre6 enc Try.prog Try.f10 Rows.fnExactSumsOfKeptRow.domain false) (Rows.fnExactSumsOfKeptSpec.post enc Try.prog Try.f10 false true false false) := by
  refine returnsInHanded_of_change_sized (C := Try.checked) own started (by kernel_rfl) Try.func10
    (ChangeSpec.witness6 (enc := enc) (C := Try.checked) false ⟨#[], #[.agg #[.slice none 0 0, .int .i64 0, .slice none 0 0]], []⟩ 8 (by kernel_rfl) (by kernel_rfl) (by kernel_rfl) (by kernel_rfl)) ?_
  intro W base args ds gs before hval0 hW hcnd hsz0 _
  have hval : ∀ (j : Nat) t v, Try.f10.params[j]? = some t → args[j]? = some v → Value.okWide Try.prog W .any base t v := hval0
  have hsz : (DataW.weightsEach Try.prog (Try.f10.params.toList ++ Rows.fnExactSumsOfKeptSpec.plain.varTypes Try.prog) (ds ++ gs)).all (· ≤ reachBytes) = true := hsz0
  have hW' := hW
  obtain ⟨p, q, hA0, hV, rfl, hfz, hnd⟩ := hW
  have hA : DataW.TrodAll enc Try.prog W 0 (fun _ => true) true Try.f10.params.toList args.toList ds p := hA0
  rw [Try.params10] at hA hval hsz
  obtain ⟨v0, vs0, d0, ds0, p0, q0, hargs, rfl, rfl, h0, r0⟩ := trodAll_cons hA
  obtain ⟨rfl, rfl, rfl⟩ := trodAll_nil r0
  obtain rfl : args = #[v0] := by cases args; simp_all
  obtain ⟨rfl, rfl⟩ := trodVars_none hV
  have k0 := h0
  have lt0 : ∀ x ∈ p0, x.block < W.heap.size := by obtain ⟨m, hm⟩ := k0; exact DataW.trod_lt m _ _ _ hm
  have wt0 := weights_arg hsz (j := 0) (t := 45) (d := d0) rfl rfl
  obtain ⟨u0, n0, t0, l0, m0, rfl, hI0, hJ0, wn0⟩ := kept_arg Try.underlying45 (by kernel_rfl) rfl rfl rfl (by kernel_rfl) Try.underlying24 (by kernel_rfl) rfl Try.underlying22 Try.underlying3 (by kernel_rfl) (by kernel_rfl) (hval 0 45 v0 rfl rfl) h0 wt0
  refine (FnExactSumsOfKept_walk hI0 hJ0 wn0).mono fun e W' ⟨he, bel⟩ => ?_
  subst he
  exact ⟨_, rfl, _, _, _, [], _, [], hW', trodAll_mk1 (shut_bool Try.underlying4 _), (trodAll_cons_mk (Below.trod laidOut (by kernel_rfl) (of_decide_eq_true (by kernel_rfl)) k0 bel lt0) trodAll_mk0), rfl, bel.frame _, fun h => by cases h⟩
theorem over : Rows.fnExactSumsOfKeptRow.holds Try.pinned (OpenSpec.ofChange Rows.fnExactSumsOfKeptSpec) :=
  OpenClaim.holds_of_wide 10 Try.f10 rfl rfl rfl rfl rfl rfl rfl ⟨rfl, rfl, rfl, rfl, rfl⟩ rfl rfl rfl rfl rfl (by kernel_rfl) Try.func10 (by kernel_rfl)
    (of_decide_eq_true (by kernel_rfl)) (by unfold Func.isWrapper; first | (rw [if_pos (by decide +kernel)]; kernel_rfl) | (rw [if_neg (by decide +kernel)]; exact ⟨rfl, rfl⟩))
    (fun os started H enc _ => lifted os started H enc)
theorem proved : Rows.FnExactSumsOfKeptSaid := over
end fnExactSumsOfKept

end Go.Proofs.Ytopdmgfbpdcnlaa
