/- EquationLine of the program and of the reference: the walk of the law. -/
import Derived.Test.YtgjomoedgmofbaaGr2
import Derived.Test.YtgjomoedgmofbaaGr16
namespace Go.Proofs.Ytgjomoedgmofbaa
open Go.RowKit Go.Zz
set_option maxHeartbeats 1000000
set_option linter.unusedVariables false

theorem FnExactEquationLine_walk {v : Value} {l : List Int} {w : World} (h : Ints w v l) :
    Calls Try.prog 4 #[v] w fun e w' => e = .returned (.bool true) ∧ Ext w w' := by
  have H := Lib.hid h
  have cS := fun v W (hI : Ints W v l) => sEquationLine_any v l W hI
  have cI := fun v W (hI : Ints W v l) => EquationLine_any v l W hI
  obtain ⟨S, hS⟩ : ∃ x, x = eqlF l := ⟨_, rfl⟩
  simp only [← hS] at cS cI
  clear hS
  obtain ⟨ao, c, rfl, -⟩ := h
  by_cases hb : (1048576 : Int) < (l.length : Int)
  · go_enter Try.func4, Try.ntmps4
    go_wp2_with fail
    go_ret
    exact ⟨rfl, Ext.refl _⟩
  · have cE : ∀ u1 u2 W, Ints W u1 l → Ints W u2 l → Calls Try.prog 34 #[u1, u2] W fun e w' => e = .returned (.bool true) ∧ Ext W w' := fun u1 u2 W h1 h2 => (eqIntS_any _ _ _ _ _ h1 h2).mono fun e w' ⟨r1, r2⟩ => ⟨by rw [r1]; simp, r2⟩
    go_enter Try.func4, Try.ntmps4
    go_wp2_with fail
    refine (toIntS_any _ _ _ H.out).mono ?_
    rintro e w1 ⟨v1, rfl, hO1, hE1⟩
    go_wp2_with fail
    refine (cS _ _ hO1.ints).mono ?_
    rintro e w2 ⟨rfl, hE2'⟩
    have hE2 := hE1.trans hE2'
    go_wp2_with fail
    refine (toIntS_any _ _ _ (H.out.ext hE2)).mono ?_
    rintro e w3 ⟨v3, rfl, hO3, hE3'⟩
    have hE3 := hE2.trans hE3'
    go_wp2_with fail
    refine (cI _ _ hO3.ints).mono ?_
    rintro e w4 ⟨rfl, hE4'⟩
    have hE4 := hE3.trans hE4'
    go_wp2_with fail
    refine (toIntS_any _ _ _ (H.out.ext hE4)).mono ?_
    rintro e w5 ⟨v5, rfl, hO5, hE5'⟩
    have hE5 := hE4.trans hE5'
    go_wp2_with fail
    refine (cE _ _ _ (hO3.ints.ext (hE4'.trans hE5')) hO5.ints).mono ?_
    rintro e w6 ⟨rfl, hE6'⟩
    go_wp2_with fail
    go_ret
    exact ⟨rfl, hE5.trans hE6'⟩
end Go.Proofs.Ytgjomoedgmofbaa
