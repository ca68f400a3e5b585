/- LeastExpansion of the program and of the reference return the same for all arguments. Conditions: none. -/
import Derived.Test.YtopdmgfbpdcnlaaC4
import Derived.Deep.RegionHeld3
import Derived.Deep.RegionWith
import Derived.Deep.DeepCutAuto
import Derived.Test.YtopdmgfbpdcnlaaC33
import Derived.Test.YtopdmgfbpdcnlaaOp
import Derived.Test.YtopdmgfbpdcnlaaRows
namespace Go.Proofs.Ytopdmgfbpdcnlaa
open Go.ChangeShapes Go.WideShapes Go.ChangeAt Go.RowKit Go.Zz
set_option maxHeartbeats 400000
set_option linter.unusedVariables false

theorem FnExactLeastExpansion_walk {v : Value} {l : List Int} {w : World} (h : Ints w v l) (a : Int) (_ : -9223372036854775808 ≤ a ∧ a ≤ 9223372036854775807) :
    Calls Try.prog 12 #[.agg #[v], .int .i64 a] w fun e w' => e = .returned (.bool true) ∧ Ext w w' := by
  have hE0 := (Ext.refl w).alloc (.cells #[v] 24)
  have hE := Ext.refl (w.alloc (.cells #[v] 24))
  have hb := box_cell w v 24
  have hg : ∀ W, Ext (w.alloc (.cells #[v] 24)) W → Ints W v l := fun W hW => h.ext (hE0.trans hW)
  clear h
  by_cases hs : szL l 1048576 < 0
  · go_enter Try.func12, Try.ntmps12
    go_wp2_with (first | (go_at_call 15; refine (szGroup_any _ _ _ _ (hg _ hE) ((by omega)) ((by omega))).mono ?_; rintro e w' ⟨rfl, hE'⟩; replace hE := hE.trans hE'; clear hE'))
    go_ret
    exact ⟨rfl, hE0.trans hE⟩
  · have hs' : 0 ≤ szL l 1048576 := by omega
    clear hs
    go_enter Try.func12, Try.ntmps12
    go_wp2_with (first | (go_at_call 15; refine (szGroup_any _ _ _ _ (hg _ hE) ((by omega)) ((by omega))).mono ?_; rintro e w' ⟨rfl, hE'⟩; replace hE := hE.trans hE'; clear hE'))
    refine (toGroup_any _ _ _ (hg _ hE)).mono ?_
    rintro e w1 ⟨v1, rfl, hO1, hE1⟩
    replace hE := hE.trans hE1
    go_wp2_with fail
    refine (sLeastExpansion_any _ _ _ _ hO1.ints).mono ?_
    rintro e w' ⟨rfl, hE'⟩
    replace hE := hE.trans hE'
    clear hE'
    go_wp2_with fail
    replace hE1 := hO1
    refine (toGroup_any _ _ _ (hg _ hE)).mono ?_
    rintro e w2 ⟨v2, rfl, hO2, hE2⟩
    obtain ⟨ao2, c2, rfl, -⟩ := hO2.shape
    have hE3 := (hE.trans hE2).alloc (.cells #[.slice ao2 l.length c2] 28)
    have hx := box_cell w2 (.slice ao2 l.length c2) 28
    have hI2 := (hO2.alloc (.cells #[.slice ao2 l.length c2] 28)).ints
    clear hE hE2 hE1
    go_wp2_with fail
    refine (LeastExpansion_any _ _ _ _ hI2).mono ?_
    rintro e w3 ⟨rfl, hF⟩
    have kx := hx _ hF
    have kb := hb _ (hE3.trans hF)
    go_wp2_with fail
    have hx' : ∀ W, Ext w3 W → W.cell? ⟨w2.heap.size, 0, none⟩ = some (.slice ao2 l.length c2) := fun W hW => hx _ (hF.trans hW)
    have hb' : ∀ W, Ext w3 W → W.cell? ⟨w.heap.size, 0, none⟩ = some v := fun W hW => hb _ (hE3.trans (hF.trans hW))
    have hD := (Ext.refl (w3)).drew
    first | (go_region_held3 (fun W => Ext (w3) W ∧ W.cell? ⟨w2.heap.size, 0, none⟩ = some (.slice ao2 l.length c2) ∧ W.cell? ⟨w.heap.size, 0, none⟩ = some v) (exact ⟨(by repeat (first | assumption | exact Ext.refl _ | (apply And.left; assumption) | apply Ext.drew | apply Ext.alloc)), hx' _ (by repeat (first | assumption | exact Ext.refl _ | (apply And.left; assumption) | apply Ext.drew | apply Ext.alloc)), hb' _ (by repeat (first | assumption | exact Ext.refl _ | (apply And.left; assumption) | apply Ext.drew | apply Ext.alloc))⟩) (first | (go_at_call 17; ((with_reducible refine Calls.mono (toGroup_any _ _ _ (hg _ (hE3.trans (hF.trans (by repeat (first | assumption | exact Ext.refl _ | (apply And.left; assumption) | apply Ext.drew | apply Ext.alloc)))))) ?_); rintro e wH0 ⟨v4, rfl, hO4, hX0⟩; have hH0 := Ext.trans (a := w3) (by repeat (first | assumption | exact Ext.refl _ | (apply And.left; assumption) | apply Ext.drew | apply Ext.alloc)) hX0)) | (go_at_call 19; ((with_reducible refine Calls.mono (eqGroup_any _ _ _ _ _ (hI2.ext (hF.trans (by repeat (first | assumption | exact Ext.refl _ | (apply And.left; assumption) | apply Ext.drew | apply Ext.alloc)))) hO4.ints) ?_); rintro e wH1 ⟨rfl, hX1⟩; have hH1 := Ext.trans (a := w3) (by repeat (first | assumption | exact Ext.refl _ | (apply And.left; assumption) | apply Ext.drew | apply Ext.alloc)) hX1)))) | (fail "the region with calls")
    go_wp2_with fail
    go_ret
    exact ⟨rfl, hE0.trans (hE3.trans (hF.trans (by repeat (first | assumption | exact Ext.refl _ | (apply And.left; assumption) | apply Ext.drew | apply Ext.alloc))))⟩

namespace fnExactLeastExpansion
theorem own : ownKnob Try.prog.godebug = none := by kernel_rfl
theorem laidOut : laidOutB Try.prog = true := by kernel_rfl
set_option maxRecDepth 100000 in
theorem lifted (os : Os) (started : os.Started) (H : Type) (enc : TypeId × Value → H) :
    ReturnsInHanded {} Try.checked os 12 .any (Rows.fnExactLeastExpansionSpec.pre6 enc Try.prog Try.f12 Rows.fnExactLeastExpansionRow.domain false) (Rows.fnExactLeastExpansionSpec.post enc Try.prog Try.f12 false true false false) := by
  refine returnsInHanded_of_change_sized (C := Try.checked) own started (by kernel_rfl) Try.func12
    (ChangeSpec.witness6 (enc := enc) (C := Try.checked) false ⟨#[], #[.agg #[.slice none 0 0], .int .i64 0], []⟩ 8 (by kernel_rfl) (by kernel_rfl) (by kernel_rfl) (by kernel_rfl)) ?_
  intro W base args ds gs before hval0 hW hcnd hsz0 _
  have hval : ∀ (j : Nat) t v, Try.f12.params[j]? = some t → args[j]? = some v → Value.okWide Try.prog W .any base t v := hval0
  have hsz : (DataW.weightsEach Try.prog (Try.f12.params.toList ++ Rows.fnExactLeastExpansionSpec.plain.varTypes Try.prog) (ds ++ gs)).all (· ≤ reachBytes) = true := hsz0
  have hW' := hW
  obtain ⟨p, q, hA0, hV, rfl, hfz, hnd⟩ := hW
  have hA : DataW.TrodAll enc Try.prog W 0 (fun _ => true) true Try.f12.params.toList args.toList ds p := hA0
  rw [Try.params12] at hA hval hsz
  obtain ⟨v0, vs0, d0, ds0, p0, q0, hargs, rfl, rfl, h0, r0⟩ := trodAll_cons hA
  obtain ⟨v1, vs1, d1, ds1, p1, q1, rfl, rfl, rfl, h1, r1⟩ := trodAll_cons r0
  obtain ⟨rfl, rfl, rfl⟩ := trodAll_nil r1
  obtain rfl : args = #[v0, v1] := by cases args; simp_all
  obtain ⟨rfl, rfl⟩ := trodVars_none hV
  have k0 := h0
  have lt0 : ∀ x ∈ p0, x.block < W.heap.size := by obtain ⟨m, hm⟩ := k0; exact DataW.trod_lt m _ _ _ hm
  have wt0 := weights_arg hsz (j := 0) (t := 24) (d := d0) rfl rfl
  obtain ⟨u0, l0, rfl, hI0⟩ := grp_arg Try.underlying24 (by kernel_rfl) rfl (by kernel_rfl) Try.underlying22 Try.underlying3 (by kernel_rfl) (by kernel_rfl) (hval 0 24 v0 rfl rfl) h0 wt0
  obtain ⟨a1, rfl, rfl, rfl, wa1⟩ := open_int Try.underlying3 (hval 1 3 v1 rfl rfl) h1
  refine (FnExactLeastExpansion_walk hI0 a1 (wf_bounds wa1)).mono fun e W' ⟨he, bel⟩ => ?_
  subst he
  exact ⟨_, rfl, _, _, _, [], _, [], hW', trodAll_mk1 (shut_bool Try.underlying4 _), (trodAll_cons_mk (Below.trod laidOut (by kernel_rfl) (of_decide_eq_true (by kernel_rfl)) k0 bel lt0) (trodAll_cons_mk (shut_int Try.underlying3 wa1) trodAll_mk0)), rfl, bel.frame _, fun h => by cases h⟩
theorem over : Rows.fnExactLeastExpansionRow.holds Try.pinned (OpenSpec.ofChange Rows.fnExactLeastExpansionSpec) :=
  OpenClaim.holds_of_wide 12 Try.f12 rfl rfl rfl rfl rfl rfl rfl ⟨rfl, rfl, rfl, rfl, rfl⟩ rfl rfl rfl rfl rfl (by kernel_rfl) Try.func12 (by kernel_rfl)
    (of_decide_eq_true (by kernel_rfl)) (by unfold Func.isWrapper; first | (rw [if_pos (by decide +kernel)]; kernel_rfl) | (rw [if_neg (by decide +kernel)]; exact ⟨rfl, rfl⟩))
    (fun os started H enc _ => lifted os started H enc)
theorem proved : Rows.FnExactLeastExpansionSaid := over
end fnExactLeastExpansion

end Go.Proofs.Ytopdmgfbpdcnlaa
