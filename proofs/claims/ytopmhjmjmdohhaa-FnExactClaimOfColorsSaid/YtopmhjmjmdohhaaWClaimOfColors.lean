/- ClaimOfColors of the program and of the reference: the walk of the law. -/
import Derived.Test.YtopmhjmjmdohhaaC4
import Derived.Deep.RegionHeld3
import Derived.Deep.RegionWith
import Derived.Deep.DeepCutAuto
import Derived.Test.YtopmhjmjmdohhaaC73
namespace Go.Proofs.Ytopmhjmjmdohhaa
open Go.RowKit Go.Zz
set_option maxHeartbeats 2000000
set_option linter.unusedVariables false

theorem FnExactClaimOfColors_walk {w : World} (a : Int) (_ : -9223372036854775808 ≤ a ∧ a ≤ 9223372036854775807) :
    Calls Try.prog 3 #[.int .i64 a] w fun e w' => e = .returned (.bool true) ∧ Ext w w' := by
  have hl0 := ccT_len a
  obtain ⟨G, hG⟩ : ∃ x : List Int, x = [] := ⟨_, rfl⟩
  obtain ⟨O, hO⟩ : ∃ x : List Int, x = [] := ⟨_, rfl⟩
  obtain ⟨T, hT⟩ : ∃ x : List Int, x = ccT a := ⟨_, rfl⟩
  obtain ⟨Q, hQ⟩ : ∃ x : List Int, x = [] := ⟨_, rfl⟩
  obtain ⟨K1, hK1⟩ : ∃ x : Int, x = ccK a := ⟨_, rfl⟩
  obtain ⟨K2, hK2⟩ : ∃ x : Int, x = 0 := ⟨_, rfl⟩
  obtain ⟨K3, hK3⟩ : ∃ x : Int, x = 0 := ⟨_, rfl⟩
  obtain ⟨K4, hK4⟩ : ∃ x : Int, x = 0 := ⟨_, rfl⟩
  obtain ⟨K5, hK5⟩ : ∃ x : Int, x = 0 := ⟨_, rfl⟩
  obtain ⟨K6, hK6⟩ : ∃ x : Int, x = ccN a := ⟨_, rfl⟩
  obtain ⟨R, hR⟩ : ∃ x : Bool, x = inB a 1 3 := ⟨_, rfl⟩
  have cS : ∀ W, Calls Try.prog 9 #[.int .i64 a] W fun e w' => ∃ v1 v2 v3 v4, e = .returned (.tuple #[CV K1 v1 v2 K2 K3 K4 K5 v3 v4 K6, .bool R]) ∧ Own4 W w' v1 v2 v3 v4 G O T Q ∧ Ext W w' := fun W => by rw [hG, hO, hT, hQ, hK1, hK2, hK3, hK4, hK5, hK6, hR]; exact sClaimOfColors_any a W
  have cI : ∀ W, Calls Try.prog 10 #[.int .i64 a] W fun e w' => ∃ v1 v2 v3 v4, e = .returned (.tuple #[CV K1 v1 v2 K2 K3 K4 K5 v3 v4 K6, .bool R]) ∧ Own4 W w' v1 v2 v3 v4 G O T Q ∧ Ext W w' := fun W => by rw [hG, hO, hT, hQ, hK1, hK2, hK3, hK4, hK5, hK6, hR]; exact ClaimOfColors_any a W
  have hlr : G.length ≤ 24 ∧ O.length ≤ 24 ∧ T.length ≤ 24 ∧ Q.length ≤ 24 := by rw [hG, hO, hT, hQ]; exact ⟨by simp, by simp, hl0, by simp⟩
  clear hl0 hG hO hT hQ hK1 hK2 hK3 hK4 hK5 hK6 hR
  go_enter Try.func3, Try.ntmps3
  go_wp2_with fail
  refine (cS _).mono ?_
  rintro e wS ⟨s1, s2, s3, s4, rfl, hOS, hES⟩
  obtain ⟨aS1, cS1, rfl, -⟩ := hOS.h1.shape
  obtain ⟨aS2, cS2, rfl, -⟩ := hOS.h2.shape
  obtain ⟨aS3, cS3, rfl, -⟩ := hOS.h3.shape
  obtain ⟨aS4, cS4, rfl, -⟩ := hOS.h4.shape
  unfold CV
  obtain ⟨wT, hwT⟩ : ∃ x, x = wS.alloc (.cells #[.int .i64 K1, .slice aS1 G.length cS1, .slice aS2 O.length cS2, .int .i64 K2, .int .i64 K3, .int .i64 K4, .int .i64 K5, .slice aS3 T.length cS3, .slice aS4 Q.length cS4, .int .i64 K6] 26) := ⟨_, rfl⟩
  have hwT' : Ext wS wT := by rw [hwT]; exact (Ext.refl _).alloc _
  have BS : Blk wT wS.heap.size 26 #[.int .i64 K1, .slice aS1 G.length cS1, .slice aS2 O.length cS2, .int .i64 K2, .int .i64 K3, .int .i64 K4, .int .i64 K5, .slice aS3 T.length cS3, .slice aS4 Q.length cS4, .int .i64 K6] := by rw [hwT]; exact Blk.new _ _ _
  have swT : wS.heap.size + 1 ≤ wT.heap.size := by rw [hwT]; simp [go_sem]
  have hIS := hOS.ints.ext hwT'
  have HwT := Lib.hid hwT
  clear hwT hOS
  go_wp2_with fail
  rw [← HwT.out]
  refine (cI _).mono ?_
  rintro e w3 ⟨g1, g2, g3, g4, rfl, hKG, hE3⟩
  obtain ⟨aG1, cG1, rfl, -⟩ := hKG.h1.shape
  obtain ⟨aG2, cG2, rfl, -⟩ := hKG.h2.shape
  obtain ⟨aG3, cG3, rfl, -⟩ := hKG.h3.shape
  obtain ⟨aG4, cG4, rfl, -⟩ := hKG.h4.shape
  have hBl := hKG.below
  unfold CV
  obtain ⟨wY, hwY⟩ : ∃ x, x = w3.alloc (.cells #[.int .i64 K1, .slice aG1 G.length cG1, .slice aG2 O.length cG2, .int .i64 K2, .int .i64 K3, .int .i64 K4, .int .i64 K5, .slice aG3 T.length cG3, .slice aG4 Q.length cG4, .int .i64 K6] 26) := ⟨_, rfl⟩
  have hwY' : Ext w3 wY := by rw [hwY]; exact (Ext.refl _).alloc _
  have BG : Blk wY w3.heap.size 26 #[.int .i64 K1, .slice aG1 G.length cG1, .slice aG2 O.length cG2, .int .i64 K2, .int .i64 K3, .int .i64 K4, .int .i64 K5, .slice aG3 T.length cG3, .slice aG4 Q.length cG4, .int .i64 K6] := by rw [hwY]; exact Blk.new _ _ _
  have swY : w3.heap.size + 1 ≤ wY.heap.size := by rw [hwY]; simp [go_sem]
  have hTY := hE3.trans hwY'
  have z0 := BG.cell (i := 0) rfl
  have z1 := BG.cell (i := 1) rfl
  have z2 := BG.cell (i := 2) rfl
  have z3 := BG.cell (i := 3) rfl
  have z4 := BG.cell (i := 4) rfl
  have z5 := BG.cell (i := 5) rfl
  have z6 := BG.cell (i := 6) rfl
  have z7 := BG.cell (i := 7) rfl
  have z8 := BG.cell (i := 8) rfl
  have z9 := BG.cell (i := 9) rfl
  have y0 := (BS.ext hTY).cell (i := 0) rfl
  have y1 := (BS.ext hTY).cell (i := 1) rfl
  have y2 := (BS.ext hTY).cell (i := 2) rfl
  have y3 := (BS.ext hTY).cell (i := 3) rfl
  have y4 := (BS.ext hTY).cell (i := 4) rfl
  have y5 := (BS.ext hTY).cell (i := 5) rfl
  have y6 := (BS.ext hTY).cell (i := 6) rfl
  have y7 := (BS.ext hTY).cell (i := 7) rfl
  have y8 := (BS.ext hTY).cell (i := 8) rfl
  have y9 := (BS.ext hTY).cell (i := 9) rfl
  rw [hwY] at z0 z1 z2 z3 z4 z5 z6 z7 z8 z9 y0 y1 y2 y3 y4 y5 y6 y7 y8 y9
  have HwY := Lib.hid hwY
  clear hwY
  go_wp2_with fail
  rw [← HwY.out]
  refine (eqClaim_same _ _ _ _ _ _ _ _ _ _ _ _ _ _ _ _ _ _ _ (hKG.ints.ext hwY') (hIS.ext hTY)).mono ?_
  rintro e w4 ⟨rfl, hE4⟩
  clear z0 z1 z2 z3 z4 z5 z6 z7 z8 z9 y0 y1 y2 y3 y4 y5 y6 y7 y8 y9
  have BG4 := BG.ext hE4
  have z0 := BG4.cell (i := 0) rfl
  have z1 := BG4.cell (i := 1) rfl
  have z2 := BG4.cell (i := 2) rfl
  have z3 := BG4.cell (i := 3) rfl
  have z4 := BG4.cell (i := 4) rfl
  have z5 := BG4.cell (i := 5) rfl
  have z6 := BG4.cell (i := 6) rfl
  have z7 := BG4.cell (i := 7) rfl
  have z8 := BG4.cell (i := 8) rfl
  have z9 := BG4.cell (i := 9) rfl
  go_wp2_with fail
  refine (markClaim_any _ _ _ _ _ _ _ _ _ _ _ _ _ _ _ _ _ _ ((hKG.ext hwY').ext hE4) hBl (by have := hE4.size; omega) (by omega) (by omega) (by omega) (by omega) (by omega)).mono ?_
  rintro e w8 ⟨rfl, hK8, hX8, -, hB8⟩
  have hT8 := hX8 wT (hTY.trans hE4) (Nat.le_refl _)
  have BG8 := hB8 _ _ _ (Nat.le_refl _) BG4
  clear z0 z1 z2 z3 z4 z5 z6 z7 z8 z9 hX8 hB8
  have z0 := BG8.cell (i := 0) rfl
  have z1 := BG8.cell (i := 1) rfl
  have z2 := BG8.cell (i := 2) rfl
  have z3 := BG8.cell (i := 3) rfl
  have z4 := BG8.cell (i := 4) rfl
  have z5 := BG8.cell (i := 5) rfl
  have z6 := BG8.cell (i := 6) rfl
  have z7 := BG8.cell (i := 7) rfl
  have z8 := BG8.cell (i := 8) rfl
  have z9 := BG8.cell (i := 9) rfl
  go_wp2_with fail
  refine (heldClaim_any _ _ _ _ _ _ _ _ _ _ _ _ _ _ _ _ hK8.ints (by omega) (by omega) (by omega) (by omega) (by omega) (by omega)).mono ?_
  rintro e w9 ⟨rfl, hE9⟩
  clear z0 z1 z2 z3 z4 z5 z6 z7 z8 z9
  go_wp2_with fail
  refine (cI _).mono ?_
  rintro e wB ⟨h1, h2, h3, h4, rfl, hKH, hEB⟩
  obtain ⟨aH1, cH1, rfl, -⟩ := hKH.h1.shape
  obtain ⟨aH2, cH2, rfl, -⟩ := hKH.h2.shape
  obtain ⟨aH3, cH3, rfl, -⟩ := hKH.h3.shape
  obtain ⟨aH4, cH4, rfl, -⟩ := hKH.h4.shape
  unfold CV
  obtain ⟨wC, hwC⟩ : ∃ x, x = wB.alloc (.cells #[.int .i64 K1, .slice aH1 G.length cH1, .slice aH2 O.length cH2, .int .i64 K2, .int .i64 K3, .int .i64 K4, .int .i64 K5, .slice aH3 T.length cH3, .slice aH4 Q.length cH4, .int .i64 K6] 26) := ⟨_, rfl⟩
  have hwC' : Ext wB wC := by rw [hwC]; exact (Ext.refl _).alloc _
  have BH : Blk wC wB.heap.size 26 #[.int .i64 K1, .slice aH1 G.length cH1, .slice aH2 O.length cH2, .int .i64 K2, .int .i64 K3, .int .i64 K4, .int .i64 K5, .slice aH3 T.length cH3, .slice aH4 Q.length cH4, .int .i64 K6] := by rw [hwC]; exact Blk.new _ _ _
  have swC : wB.heap.size + 1 ≤ wC.heap.size := by rw [hwC]; simp [go_sem]
  have h8C := hE9.trans (hEB.trans hwC')
  have hTC := hT8.trans h8C
  have z0 := BH.cell (i := 0) rfl
  have z1 := BH.cell (i := 1) rfl
  have z2 := BH.cell (i := 2) rfl
  have z3 := BH.cell (i := 3) rfl
  have z4 := BH.cell (i := 4) rfl
  have z5 := BH.cell (i := 5) rfl
  have z6 := BH.cell (i := 6) rfl
  have z7 := BH.cell (i := 7) rfl
  have z8 := BH.cell (i := 8) rfl
  have z9 := BH.cell (i := 9) rfl
  have y0 := (BS.ext hTC).cell (i := 0) rfl
  have y1 := (BS.ext hTC).cell (i := 1) rfl
  have y2 := (BS.ext hTC).cell (i := 2) rfl
  have y3 := (BS.ext hTC).cell (i := 3) rfl
  have y4 := (BS.ext hTC).cell (i := 4) rfl
  have y5 := (BS.ext hTC).cell (i := 5) rfl
  have y6 := (BS.ext hTC).cell (i := 6) rfl
  have y7 := (BS.ext hTC).cell (i := 7) rfl
  have y8 := (BS.ext hTC).cell (i := 8) rfl
  have y9 := (BS.ext hTC).cell (i := 9) rfl
  rw [hwC] at z0 z1 z2 z3 z4 z5 z6 z7 z8 z9 y0 y1 y2 y3 y4 y5 y6 y7 y8 y9
  have HwC := Lib.hid hwC
  clear hwC
  go_wp2_with fail
  rw [← HwC.out]
  refine (eqClaim_same _ _ _ _ _ _ _ _ _ _ _ _ _ _ _ _ _ _ _ (hKH.ints.ext hwC') (hIS.ext hTC)).mono ?_
  rintro e wD ⟨rfl, hED⟩
  clear z0 z1 z2 z3 z4 z5 z6 z7 z8 z9 y0 y1 y2 y3 y4 y5 y6 y7 y8 y9
  have BG9 := BG8.ext (h8C.trans hED)
  have z0 := BG9.cell (i := 0) rfl
  have z1 := BG9.cell (i := 1) rfl
  have z2 := BG9.cell (i := 2) rfl
  have z3 := BG9.cell (i := 3) rfl
  have z4 := BG9.cell (i := 4) rfl
  have z5 := BG9.cell (i := 5) rfl
  have z6 := BG9.cell (i := 6) rfl
  have z7 := BG9.cell (i := 7) rfl
  have z8 := BG9.cell (i := 8) rfl
  have z9 := BG9.cell (i := 9) rfl
  go_wp2_with fail
  refine (heldClaim_any _ _ _ _ _ _ _ _ _ _ _ _ _ _ _ _ (hK8.ints.ext (h8C.trans hED)) (by omega) (by omega) (by omega) (by omega) (by omega) (by omega)).mono ?_
  rintro e wF ⟨rfl, hEF⟩
  go_wp2_with fail
  go_ret
  exact ⟨rfl, hES.trans (hwT'.trans (hTC.trans (hED.trans hEF)))⟩
end Go.Proofs.Ytopmhjmjmdohhaa
