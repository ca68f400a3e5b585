/- GroupLine of the program and of the reference: the walk of the law. -/
import Derived.Test.YtpjpfpmapdjnaaaGr2
import Derived.Deep.RegionHeld3
import Derived.Deep.RegionWith
import Derived.Deep.DeepCutAuto
import Derived.Test.YtpjpfpmapdjnaaaGr17
namespace Go.Proofs.Ytpjpfpmapdjnaaa
open Go.RowKit Go.Zz
set_option maxHeartbeats 1000000
set_option linter.unusedVariables false

theorem FnExactGroupLine_walk {v : Value} {l : List Int} {w : World} (h : Ints w v l) :
    Calls Try.prog 3 #[.agg #[v]] w fun e w' => e = .returned (.bool true) ∧ Ext w w' := by
  have hE0 := (Ext.refl w).alloc (.cells #[v] 24)
  have hE := Ext.refl (w.alloc (.cells #[v] 24))
  have hb := box_cell w v 24
  have hg : ∀ W, Ext (w.alloc (.cells #[v] 24)) W → Ints W v l := fun W hW => h.ext (hE0.trans hW)
  clear h
  by_cases hs : szL l 1048576 < 0
  · go_enter Try.func3, Try.ntmps3
    go_wp2_with (first | (go_at_call 4; refine (szGroup_any _ _ _ _ (hg _ hE) ((by omega)) ((by omega))).mono ?_; rintro e w' ⟨rfl, hE'⟩; replace hE := hE.trans hE'; clear hE'))
    go_ret
    exact ⟨rfl, hE0.trans hE⟩
  · have hs' : 0 ≤ szL l 1048576 := by omega
    clear hs
    go_enter Try.func3, Try.ntmps3
    go_wp2_with (first | (go_at_call 4; refine (szGroup_any _ _ _ _ (hg _ hE) ((by omega)) ((by omega))).mono ?_; rintro e w' ⟨rfl, hE'⟩; replace hE := hE.trans hE'; clear hE'))
    refine (toGroup_any _ _ _ (hg _ hE)).mono ?_
    rintro e w1 ⟨v1, rfl, hO1, hE1⟩
    replace hE := hE.trans hE1
    go_wp2_with fail
    refine (sGroupLine_any _ _ _ hO1.ints).mono ?_
    rintro e w' ⟨rfl, hE'⟩
    replace hE := hE.trans hE'
    clear hE'
    go_wp2_with fail
    replace hE1 := hO1
    refine (toGroup_any _ _ _ (hg _ hE)).mono ?_
    rintro e w2 ⟨v2, rfl, hO2, hE2⟩
    obtain ⟨ao2, c2, rfl, -⟩ := hO2.shape
    have hE3 := (hE.trans hE2).alloc (.cells #[.slice ao2 l.length c2] 27)
    have hx := box_cell w2 (.slice ao2 l.length c2) 27
    have hI2 := (hO2.alloc (.cells #[.slice ao2 l.length c2] 27)).ints
    clear hE hE2 hE1
    go_wp2_with fail
    refine (GroupLine_any _ _ _ hI2).mono ?_
    rintro e w3 ⟨rfl, hF⟩
    have kx := hx _ hF
    have kb := hb _ (hE3.trans hF)
    go_wp2_with fail
    have hx' : ∀ W, Ext w3 W → W.cell? ⟨w2.heap.size, 0, none⟩ = some (.slice ao2 l.length c2) := fun W hW => hx _ (hF.trans hW)
    have hb' : ∀ W, Ext w3 W → W.cell? ⟨w.heap.size, 0, none⟩ = some v := fun W hW => hb _ (hE3.trans (hF.trans hW))
    have hD := (Ext.refl (w3)).drew
    first | (go_region_held3 (fun W => Ext (w3) W ∧ W.cell? ⟨w2.heap.size, 0, none⟩ = some (.slice ao2 l.length c2) ∧ W.cell? ⟨w.heap.size, 0, none⟩ = some v) (exact ⟨(by repeat (first | assumption | exact Ext.refl _ | (apply And.left; assumption) | apply Ext.drew | apply Ext.alloc)), hx' _ (by repeat (first | assumption | exact Ext.refl _ | (apply And.left; assumption) | apply Ext.drew | apply Ext.alloc)), hb' _ (by repeat (first | assumption | exact Ext.refl _ | (apply And.left; assumption) | apply Ext.drew | apply Ext.alloc))⟩) (first | (go_at_call 6; ((with_reducible refine Calls.mono (toGroup_any _ _ _ (hg _ (hE3.trans (hF.trans (by repeat (first | assumption | exact Ext.refl _ | (apply And.left; assumption) | apply Ext.drew | apply Ext.alloc)))))) ?_); rintro e wH0 ⟨v4, rfl, hO4, hX0⟩; have hH0 := Ext.trans (a := w3) (by repeat (first | assumption | exact Ext.refl _ | (apply And.left; assumption) | apply Ext.drew | apply Ext.alloc)) hX0)) | (go_at_call 8; ((with_reducible refine Calls.mono (eqGroup_any _ _ _ _ _ (hI2.ext (hF.trans (by repeat (first | assumption | exact Ext.refl _ | (apply And.left; assumption) | apply Ext.drew | apply Ext.alloc)))) hO4.ints) ?_); rintro e wH1 ⟨rfl, hX1⟩; have hH1 := Ext.trans (a := w3) (by repeat (first | assumption | exact Ext.refl _ | (apply And.left; assumption) | apply Ext.drew | apply Ext.alloc)) hX1)))) | (fail "the region with calls")
    go_wp2_with fail
    go_ret
    exact ⟨rfl, hE0.trans (hE3.trans (hF.trans (by repeat (first | assumption | exact Ext.refl _ | (apply And.left; assumption) | apply Ext.drew | apply Ext.alloc))))⟩



end Go.Proofs.Ytpjpfpmapdjnaaa
