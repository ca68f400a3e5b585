/- PartsOfCayley of the program and of the reference return the same for all arguments. Conditions: none. -/
import Derived.Test.YtopdmgfbpdcnlaaC4
import Derived.Deep.RegionHeld3
import Derived.Deep.RegionWith
import Derived.Deep.DeepCutAuto
import Derived.Test.YtopdmgfbpdcnlaaCm
import Derived.Test.YtopdmgfbpdcnlaaC31
import Derived.Test.YtopdmgfbpdcnlaaOp
import Derived.Test.YtopdmgfbpdcnlaaRows
namespace Go.Proofs.Ytopdmgfbpdcnlaa
open Go.ChangeShapes Go.WideShapes Go.ChangeAt Go.RowKit Go.Zz
set_option maxHeartbeats 400000
set_option linter.unusedVariables false

theorem FnExactPartsOfCayley_walk {v : Value} {l : List Int} {w : World} (h : Ints w v l) (a : Int) (_ : -9223372036854775808 ≤ a ∧ a ≤ 9223372036854775807) :
    Calls Try.prog 13 #[.agg #[v], .int .i64 a] w fun e w' => e = .returned (.bool true) ∧ Ext w w' := by
  have hE0 := (Ext.refl w).alloc (.cells #[v] 24)
  have hE := Ext.refl (w.alloc (.cells #[v] 24))
  have hb := box_cell w v 24
  have hg : ∀ W, Ext (w.alloc (.cells #[v] 24)) W → Ints W v l := fun W hW => h.ext (hE0.trans hW)
  clear h
  by_cases hs : szL l 1048576 < 0
  · go_enter Try.func13, Try.ntmps13
    go_wp2_with (first | (go_at_call 15; refine (szGroup_any _ _ _ _ (hg _ hE) ((by omega)) ((by omega))).mono ?_; rintro e w' ⟨rfl, hE'⟩; replace hE := hE.trans hE'; clear hE'))
    go_ret
    exact ⟨rfl, hE0.trans hE⟩
  · have hs' : 0 ≤ szL l 1048576 := by omega
    clear hs
    go_enter Try.func13, Try.ntmps13
    go_wp2_with (first | (go_at_call 15; refine (szGroup_any _ _ _ _ (hg _ hE) ((by omega)) ((by omega))).mono ?_; rintro e w' ⟨rfl, hE'⟩; replace hE := hE.trans hE'; clear hE'))
    refine (toGroup_any _ _ _ (hg _ hE)).mono ?_
    rintro e w1 ⟨v1, rfl, hO1, hE1⟩
    replace hE := hE.trans hE1
    go_wp2_with fail
    refine (sPartsOfCayley_any _ _ _ _ hO1.ints).mono ?_
    rintro e wS ⟨vS, rfl, hOS, hES⟩
    have hlen := hOS.2
    have hEa := hE.trans hES
    clear hE
    go_wp2_with fail
    refine (toGroup_any _ _ _ (hg _ hEa)).mono ?_
    rintro e w2 ⟨v2, rfl, hO2, hE2⟩
    obtain ⟨ao2, c2, rfl, -⟩ := hO2.shape
    have hlen2 := hO2.2
    have hEb := hEa.trans hE2
    have hE3 := (Ext.refl w2).alloc (.cells #[.slice ao2 l.length c2] 28)
    have hx := box_cell w2 (.slice ao2 l.length c2) 28
    have hI2 := (hO2.alloc (.cells #[.slice ao2 l.length c2] 28)).ints
    have hO2b := hO2.alloc (.cells #[.slice ao2 l.length c2] 28)
    go_wp2_with fail
    refine (PartsOfCayley_any _ _ _ _ hI2).mono ?_
    rintro e w3 ⟨vG, rfl, hOG, hF⟩
    go_wp2_with fail
    refine (eqIntS_any _ _ _ _ _ hOG.ints (hOS.ints.ext (hE2.trans (hE3.trans hF)))).mono ?_
    rintro e w4 ⟨rfl, hE4⟩
    have hF4 := hE3.trans (hF.trans hE4)
    have kx := hx _ (hF.trans hE4)
    have kb := hb _ (hEb.trans hF4)
    go_wp2_with fail
    have hx' : ∀ W, Ext w4 W → W.cell? ⟨w2.heap.size, 0, none⟩ = some (.slice ao2 l.length c2) := fun W hW => hx _ ((hF.trans hE4).trans hW)
    have hb' : ∀ W, Ext w4 W → W.cell? ⟨w.heap.size, 0, none⟩ = some v := fun W hW => hb _ ((hEb.trans hF4).trans hW)
    have hD := (Ext.refl (w4)).drew
    first | (go_region_held3 (fun W => Ext (w4) W ∧ W.cell? ⟨w2.heap.size, 0, none⟩ = some (.slice ao2 l.length c2) ∧ W.cell? ⟨w.heap.size, 0, none⟩ = some v) (exact ⟨(by repeat (first | assumption | exact Ext.refl _ | (apply And.left; assumption) | apply Ext.drew | apply Ext.alloc)), hx' _ (by repeat (first | assumption | exact Ext.refl _ | (apply And.left; assumption) | apply Ext.drew | apply Ext.alloc)), hb' _ (by repeat (first | assumption | exact Ext.refl _ | (apply And.left; assumption) | apply Ext.drew | apply Ext.alloc))⟩) (first | (go_at_call 17; ((with_reducible refine Calls.mono (toGroup_any _ _ _ (hg _ ((hEb.trans hF4).trans (by repeat (first | assumption | exact Ext.refl _ | (apply And.left; assumption) | apply Ext.drew | apply Ext.alloc))))) ?_); rintro e wH0 ⟨v4, rfl, hO4, hX0⟩; have hH0 := Ext.trans (a := w4) (by repeat (first | assumption | exact Ext.refl _ | (apply And.left; assumption) | apply Ext.drew | apply Ext.alloc)) hX0)) | (go_at_call 19; ((with_reducible refine Calls.mono (eqGroup_any _ _ _ _ _ (hI2.ext ((hF.trans hE4).trans (by repeat (first | assumption | exact Ext.refl _ | (apply And.left; assumption) | apply Ext.drew | apply Ext.alloc)))) hO4.ints) ?_); rintro e wH1 ⟨rfl, hX1⟩; have hH1 := Ext.trans (a := w4) (by repeat (first | assumption | exact Ext.refl _ | (apply And.left; assumption) | apply Ext.drew | apply Ext.alloc)) hX1)))) | (fail "the region with calls")
    obtain ⟨w5, h45⟩ : ∃ w5, Ext w4 w5 ∧ w5 = wH1 := ⟨_, by repeat (first | assumption | exact Ext.refl _ | (apply And.left; assumption) | apply Ext.drew | apply Ext.alloc), rfl⟩
    obtain ⟨h45, rfl⟩ := h45
    have kx5 := hx' _ h45
    go_wp2_with fail
    refine (markGroup_any _ _ _ _ _ (hO2b.ext ((hF.trans hE4).trans h45)) (by omega) (by omega)).mono ?_
    rintro e w6 ⟨rfl, hO6, hG6⟩
    have n1 := blk_ne hOS hO2 (Nat.le_refl _)
    have n2 := blk_ne' hOG hO2 hE3.size
    have n3 := blk_ne hOS hOG (hE2.trans hE3).size
    have hOS6 := (hOS.ext (hE2.trans (hF4.trans h45))).kept hG6 n1
    have hOG6 := (hOG.ext (hE4.trans h45)).kept hG6 n2
    have hE6 := (hEb.trans (hF4.trans h45)).grown hG6 fun k hk => Nat.le_trans hEa.size (hO2.blk k hk).1
    have hk0 : 0 ≤ 1 + (l.length : Int) := by omega
    go_wp2_with fail
    refine (eqIntS_any _ _ _ _ _ hOG6.ints hOS6.ints).mono ?_
    rintro e w7 ⟨rfl, hE7⟩
    go_wp2_with fail
    refine (markIntS_any _ _ _ _ _ (hOG6.ext hE7) (by omega) (by omega)).mono ?_
    rintro e w8 ⟨rfl, hO8, hG8⟩
    have hOS8 := (hOS6.ext hE7).kept hG8 n3
    have hE8 := (hE6.trans hE7).grown hG8 fun k hk => Nat.le_trans (hEb.trans hE3).size (hOG.blk k hk).1
    have kb8 := hb _ hE8
    clear hOS6 hOG6 hE6 hOS n1 n2 n3
    go_wp2_with fail
    refine (heldIntS_any _ _ _ _ hO8.ints (by omega) (by omega)).mono ?_
    rintro e w' ⟨rfl, rfl⟩
    go_wp2_with fail
    refine (toGroup_any _ _ _ (hg _ hE8)).mono ?_
    rintro e w9 ⟨v9, rfl, hO9, hE9⟩
    go_wp2_with fail
    refine (PartsOfCayley_any _ _ _ _ hO9.ints).mono ?_
    rintro e w10 ⟨vH, rfl, hOH, hE10⟩
    go_wp2_with fail
    refine (eqIntS_any _ _ _ _ _ hOH.ints (hOS8.ints.ext (hE9.trans hE10))).mono ?_
    rintro e w11 ⟨rfl, hE11⟩
    go_wp2_with fail
    refine (heldIntS_any _ _ _ _ (hO8.ext (hE9.trans (hE10.trans hE11))).ints (by omega) (by omega)).mono ?_
    rintro e w' ⟨rfl, rfl⟩
    go_wp2_with fail
    go_ret
    exact ⟨rfl, hE0.trans (hE8.trans (hE9.trans (hE10.trans hE11)))⟩

namespace fnExactPartsOfCayley
theorem own : ownKnob Try.prog.godebug = none := by kernel_rfl
theorem laidOut : laidOutB Try.prog = true := by kernel_rfl
set_option maxRecDepth 100000 in
theorem lifted (os : Os) (started : os.Started) (H : Type) (enc : TypeId × Value → H) :
    ReturnsInHanded {} Try.checked os 13 .any (Rows.fnExactPartsOfCayleySpec.pre6 enc Try.prog Try.f13 Rows.fnExactPartsOfCayleyRow.domain false) (Rows.fnExactPartsOfCayleySpec.post enc Try.prog Try.f13 false true false false) := by
  refine returnsInHanded_of_change_sized (C := Try.checked) own started (by kernel_rfl) Try.func13
    (ChangeSpec.witness6 (enc := enc) (C := Try.checked) false ⟨#[], #[.agg #[.slice none 0 0], .int .i64 0], []⟩ 8 (by kernel_rfl) (by kernel_rfl) (by kernel_rfl) (by kernel_rfl)) ?_
  intro W base args ds gs before hval0 hW hcnd hsz0 _
  have hval : ∀ (j : Nat) t v, Try.f13.params[j]? = some t → args[j]? = some v → Value.okWide Try.prog W .any base t v := hval0
  have hsz : (DataW.weightsEach Try.prog (Try.f13.params.toList ++ Rows.fnExactPartsOfCayleySpec.plain.varTypes Try.prog) (ds ++ gs)).all (· ≤ reachBytes) = true := hsz0
  have hW' := hW
  obtain ⟨p, q, hA0, hV, rfl, hfz, hnd⟩ := hW
  have hA : DataW.TrodAll enc Try.prog W 0 (fun _ => true) true Try.f13.params.toList args.toList ds p := hA0
  rw [Try.params13] at hA hval hsz
  obtain ⟨v0, vs0, d0, ds0, p0, q0, hargs, rfl, rfl, h0, r0⟩ := trodAll_cons hA
  obtain ⟨v1, vs1, d1, ds1, p1, q1, rfl, rfl, rfl, h1, r1⟩ := trodAll_cons r0
  obtain ⟨rfl, rfl, rfl⟩ := trodAll_nil r1
  obtain rfl : args = #[v0, v1] := by cases args; simp_all
  obtain ⟨rfl, rfl⟩ := trodVars_none hV
  have k0 := h0
  have lt0 : ∀ x ∈ p0, x.block < W.heap.size := by obtain ⟨m, hm⟩ := k0; exact DataW.trod_lt m _ _ _ hm
  have wt0 := weights_arg hsz (j := 0) (t := 24) (d := d0) rfl rfl
  obtain ⟨u0, l0, rfl, hI0⟩ := grp_arg Try.underlying24 (by kernel_rfl) rfl (by kernel_rfl) Try.underlying22 Try.underlying3 (by kernel_rfl) (by kernel_rfl) (hval 0 24 v0 rfl rfl) h0 wt0
  obtain ⟨a1, rfl, rfl, rfl, wa1⟩ := open_int Try.underlying3 (hval 1 3 v1 rfl rfl) h1
  refine (FnExactPartsOfCayley_walk hI0 a1 (wf_bounds wa1)).mono fun e W' ⟨he, bel⟩ => ?_
  subst he
  exact ⟨_, rfl, _, _, _, [], _, [], hW', trodAll_mk1 (shut_bool Try.underlying4 _), (trodAll_cons_mk (Below.trod laidOut (by kernel_rfl) (of_decide_eq_true (by kernel_rfl)) k0 bel lt0) (trodAll_cons_mk (shut_int Try.underlying3 wa1) trodAll_mk0)), rfl, bel.frame _, fun h => by cases h⟩
theorem over : Rows.fnExactPartsOfCayleyRow.holds Try.pinned (OpenSpec.ofChange Rows.fnExactPartsOfCayleySpec) :=
  OpenClaim.holds_of_wide 13 Try.f13 rfl rfl rfl rfl rfl rfl rfl ⟨rfl, rfl, rfl, rfl, rfl⟩ rfl rfl rfl rfl rfl (by kernel_rfl) Try.func13 (by kernel_rfl)
    (of_decide_eq_true (by kernel_rfl)) (by unfold Func.isWrapper; first | (rw [if_pos (by decide +kernel)]; kernel_rfl) | (rw [if_neg (by decide +kernel)]; exact ⟨rfl, rfl⟩))
    (fun os started H enc _ => lifted os started H enc)
theorem proved : Rows.FnExactPartsOfCayleySaid := over
end fnExactPartsOfCayley

end Go.Proofs.Ytopdmgfbpdcnlaa
