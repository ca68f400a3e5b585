/- SequenceLine of the program and of the reference: the walk of the law. -/
import Derived.Test.YtdlbbpeahicakaaGreatGr2
import Derived.Test.YtdlbbpeahicakaaGreatGr26
import Derived.Deep.RegionHeld3
namespace Go.Proofs.YtdlbbpeahicakaaGreat
open Go.RowKit Go.Zz
set_option maxHeartbeats 1000000
set_option linter.unusedVariables false

theorem FnExactSequenceLine_walk {v u : Value} {l m : List Int} {w : World} (h : Ints w v l) (hu : Ints w u m) :
    Calls Tryz.prog 3 #[.agg #[v], u] w fun e w' => e = .returned (.bool true) ∧ Ext w w' := by
  have cS := fun v u W (hI : Ints W v l) (hJ : Ints W u m) => sSequenceLine_any v u l m W hI hJ
  have cI := fun v u W (hI : Ints W v l) (hJ : Ints W u m) => SequenceLine_any v u l m W hI hJ
  obtain ⟨S, hS⟩ : ∃ x, x = sqlF l m := ⟨_, rfl⟩
  simp only [← hS] at cS cI
  clear hS
  have hu' := hu
  obtain ⟨aoM, cM, rfl, -, hlM, -⟩ := hu'
  by_cases hm20 : m.length ≤ 1048576
  rotate_left
  ·
    have hE0 := (Ext.refl w).alloc (.cells #[v] 24)
    have hE := Ext.refl (w.alloc (.cells #[v] 24))
    have hb := box_cell w v 24
    have hg : ∀ W, Ext (w.alloc (.cells #[v] 24)) W → Ints W v l := fun W hW => h.ext (hE0.trans hW)
    clear h
    go_enter Tryz.func3, Tryz.ntmps3
    go_wp2_with fail
    go_ret
    exact ⟨rfl, hE0.trans hE⟩
  have hE0 := (Ext.refl w).alloc (.cells #[v] 24)
  have hE := Ext.refl (w.alloc (.cells #[v] 24))
  have hb := box_cell w v 24
  have hg : ∀ W, Ext (w.alloc (.cells #[v] 24)) W → Ints W v l := fun W hW => h.ext (hE0.trans hW)
  clear h
  have Hgu : Hid (∀ W, Ext (w.alloc (.cells #[v] 24)) W → Ints W (.slice aoM m.length cM) m) := Lib.hid fun W hW => hu.ext (hE0.trans hW)
  clear hu
  by_cases hs : szL l 1048576 < 0
  · go_enter Tryz.func3, Tryz.ntmps3
    go_wp2_with (first | (go_at_call 5; refine (szGroup_any _ _ _ _ (hg _ hE) ((by omega)) ((by omega))).mono ?_; rintro e w' ⟨rfl, hE'⟩; replace hE := hE.trans hE'; clear hE'))
    go_ret
    exact ⟨rfl, hE0.trans hE⟩
  · have hs' : 0 ≤ szL l 1048576 := by omega
    have cE : ∀ u1 u2 W, Ints W u1 m → Ints W u2 m → Calls Tryz.prog 11 #[u1, u2] W fun e w' => e = .returned (.bool true) ∧ Ext W w' := fun u1 u2 W h1 h2 => (eqIntS_any _ _ _ _ _ h1 h2).mono fun e w' ⟨r1, r2⟩ => ⟨by rw [r1]; simp, r2⟩
    clear hs
    go_enter Tryz.func3, Tryz.ntmps3
    go_wp2_with (first | (go_at_call 5; refine (szGroup_any _ _ _ _ (hg _ hE) ((by omega)) ((by omega))).mono ?_; rintro e w' ⟨rfl, hE'⟩; replace hE := hE.trans hE'; clear hE'))
    refine (toGroup_any _ _ _ (hg _ hE)).mono ?_
    rintro e w1 ⟨v1, rfl, hO1, hE1⟩
    replace hE := hE.trans hE1
    go_wp2_with fail
    refine (toIntS_any _ _ _ (Hgu.out _ hE)).mono ?_
    rintro e w1b ⟨vb1, rfl, hOb, hEb⟩
    replace hE := hE.trans hEb
    go_wp2_with fail
    refine (cS _ _ _ (hO1.ints.ext hEb) hOb.ints).mono ?_
    rintro e w' ⟨rfl, hE'⟩
    replace hE := hE.trans hE'
    clear hE'
    go_wp2_with fail
    refine (toGroup_any _ _ _ (hg _ hE)).mono ?_
    rintro e w2 ⟨v2, rfl, hO2, hE2⟩
    obtain ⟨ao2, c2, rfl, -⟩ := hO2.shape
    have hE3 := (hE.trans hE2).alloc (.cells #[.slice ao2 l.length c2] 27)
    have hx := box_cell w2 (.slice ao2 l.length c2) 27
    have hI2 := (hO2.alloc (.cells #[.slice ao2 l.length c2] 27)).ints
    clear hE hE2 hE1
    go_wp2_with fail
    refine (toIntS_any _ _ _ (Hgu.out _ hE3)).mono ?_
    rintro e wX ⟨vX, rfl, hOX, hEX⟩
    obtain ⟨aoX, cX, rfl, -⟩ := hOX.shape
    have kx0 := hx _ hEX
    go_wp2_with fail
    refine (cI _ _ _ (hI2.ext hEX) hOX.ints).mono ?_
    rintro e w3 ⟨rfl, hF0⟩
    have hF := hEX.trans hF0
    have hJ3 := hOX.ints.ext hF0
    have kx := hx _ hF
    have kb := hb _ (hE3.trans hF)
    go_wp2_with fail
    have hx' : ∀ W, Ext w3 W → W.cell? ⟨w2.heap.size, 0, none⟩ = some (.slice ao2 l.length c2) := fun W hW => hx _ (hF.trans hW)
    have hb' : ∀ W, Ext w3 W → W.cell? ⟨w.heap.size, 0, none⟩ = some v := fun W hW => hb _ (hE3.trans (hF.trans hW))
    have hD := (Ext.refl (w3)).drew
    first | (go_region_held3 (fun W => Ext (w3) W ∧ W.cell? ⟨w2.heap.size, 0, none⟩ = some (.slice ao2 l.length c2) ∧ W.cell? ⟨w.heap.size, 0, none⟩ = some v) (exact ⟨(by repeat (first | assumption | exact Ext.refl _ | (apply And.left; assumption) | apply Ext.drew | apply Ext.alloc)), hx' _ (by repeat (first | assumption | exact Ext.refl _ | (apply And.left; assumption) | apply Ext.drew | apply Ext.alloc)), hb' _ (by repeat (first | assumption | exact Ext.refl _ | (apply And.left; assumption) | apply Ext.drew | apply Ext.alloc))⟩) (first | (go_at_call 7; ((with_reducible refine Calls.mono (toGroup_any _ _ _ (hg _ (hE3.trans (hF.trans (by repeat (first | assumption | exact Ext.refl _ | (apply And.left; assumption) | apply Ext.drew | apply Ext.alloc)))))) ?_); rintro e wH0 ⟨v4, rfl, hO4, hX0⟩; have hH0 := Ext.trans (a := w3) (by repeat (first | assumption | exact Ext.refl _ | (apply And.left; assumption) | apply Ext.drew | apply Ext.alloc)) hX0)) | (go_at_call 10; ((with_reducible refine Calls.mono (eqGroup_any _ _ _ _ _ (hI2.ext (hF.trans (by repeat (first | assumption | exact Ext.refl _ | (apply And.left; assumption) | apply Ext.drew | apply Ext.alloc)))) hO4.ints) ?_); rintro e wH1 ⟨rfl, hX1⟩; have hH1 := Ext.trans (a := w3) (by repeat (first | assumption | exact Ext.refl _ | (apply And.left; assumption) | apply Ext.drew | apply Ext.alloc)) hX1)))) | (fail "the region with calls")
    go_wp2_with fail
    refine (toIntS_any _ _ _ (Hgu.out _ (hE3.trans (hF.trans (by repeat (first | assumption | exact Ext.refl _ | (apply And.left; assumption) | apply Ext.drew | apply Ext.alloc)))))).mono ?_
    rintro e w6 ⟨v6, rfl, hO6, hE6⟩
    have hE56 := Ext.trans (a := w3) (by repeat (first | assumption | exact Ext.refl _ | (apply And.left; assumption) | apply Ext.drew | apply Ext.alloc)) hE6
    go_wp2_with fail
    refine (cE _ _ _ (hJ3.ext hE56) hO6.ints).mono ?_
    rintro e w7 ⟨rfl, hE7⟩
    go_wp2_with fail
    go_ret
    exact ⟨rfl, hE0.trans (hE3.trans (hF.trans (hE56.trans hE7)))⟩
end Go.Proofs.YtdlbbpeahicakaaGreat
