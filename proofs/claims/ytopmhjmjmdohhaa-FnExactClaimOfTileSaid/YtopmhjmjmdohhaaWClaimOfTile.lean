/- ClaimOfTile of the program and of the reference: the walk of the law. -/
import Derived.Test.YtopmhjmjmdohhaaC4
import Derived.Deep.RegionHeld3
import Derived.Deep.RegionWith
import Derived.Deep.DeepCutAuto
import Derived.Test.YtopmhjmjmdohhaaC77
namespace Go.Proofs.Ytopmhjmjmdohhaa
open Go.RowKit Go.Zz
set_option maxHeartbeats 1000000
set_option linter.unusedVariables false

theorem FnExactClaimOfTile_walk {v : Value} {l : List Int} {w : World} (h : Ints w v l) (a : Int) (_ : -9223372036854775808 ≤ a ∧ a ≤ 9223372036854775807) :
    Calls Try.prog 6 #[.agg #[v], .int .i64 a] w fun e w' => e = .returned (.bool true) ∧ Ext w w' := by
  have hl0 : ((if ftB l a then l else []) : List Int).length ≤ l.length + 24 ∧ ([] : List Int).length ≤ l.length + 24 ∧ ([] : List Int).length ≤ l.length + 24 ∧ ([] : List Int).length ≤ l.length + 24 := (by refine ⟨?_, by simp, by simp, by simp⟩; split <;> simp)
  obtain ⟨G, hG⟩ : ∃ x : List Int, x = (if ftB l a then l else []) := ⟨_, rfl⟩
  obtain ⟨O, hO⟩ : ∃ x : List Int, x = [] := ⟨_, rfl⟩
  obtain ⟨T, hT⟩ : ∃ x : List Int, x = [] := ⟨_, rfl⟩
  obtain ⟨Q, hQ⟩ : ∃ x : List Int, x = [] := ⟨_, rfl⟩
  obtain ⟨K1, hK1⟩ : ∃ x : Int, x = (if ftB l a then 4 else 0) := ⟨_, rfl⟩
  obtain ⟨K2, hK2⟩ : ∃ x : Int, x = (if ftB l a then a else 0) := ⟨_, rfl⟩
  obtain ⟨K3, hK3⟩ : ∃ x : Int, x = ftV l a := ⟨_, rfl⟩
  obtain ⟨K4, hK4⟩ : ∃ x : Int, x = 0 := ⟨_, rfl⟩
  obtain ⟨K5, hK5⟩ : ∃ x : Int, x = 0 := ⟨_, rfl⟩
  obtain ⟨K6, hK6⟩ : ∃ x : Int, x = 0 := ⟨_, rfl⟩
  obtain ⟨R, hR⟩ : ∃ x : Bool, x = ftB l a := ⟨_, rfl⟩
  have cS : ∀ u W, Ints W u l → Calls Try.prog 23 #[.agg #[u], .int .i64 a] W fun e w' => ∃ v1 v2 v3 v4, e = .returned (.tuple #[CV K1 v1 v2 K2 K3 K4 K5 v3 v4 K6, .bool R]) ∧ Own4 W w' v1 v2 v3 v4 G O T Q ∧ Ext W w' := fun u W hu => by subst hG hO hT hQ hK1 hK2 hK3 hK4 hK5 hK6 hR; exact sClaimOfTile_any u l a W hu
  have cI : ∀ u W, Ints W u l → Calls Try.prog 24 #[.agg #[u], .int .i64 a] W fun e w' => ∃ v1 v2 v3 v4, e = .returned (.tuple #[CV K1 v1 v2 K2 K3 K4 K5 v3 v4 K6, .bool R]) ∧ Own4 W w' v1 v2 v3 v4 G O T Q ∧ Ext W w' := fun u W hu => by subst hG hO hT hQ hK1 hK2 hK3 hK4 hK5 hK6 hR; exact ClaimOfTile_any u l a W hu
  have hlr : G.length ≤ l.length + 24 ∧ O.length ≤ l.length + 24 ∧ T.length ≤ l.length + 24 ∧ Q.length ≤ l.length + 24 := by rw [hG, hO, hT, hQ]; exact hl0
  clear hl0 hG hO hT hQ hK1 hK2 hK3 hK4 hK5 hK6 hR
  have hE0 := (Ext.refl w).alloc (.cells #[v] 32)
  have hE := Ext.refl (w.alloc (.cells #[v] 32))
  have hb := box_cell w v 32
  have hg : ∀ W, Ext (w.alloc (.cells #[v] 32)) W → Ints W v l := fun W hW => h.ext (hE0.trans hW)
  clear h
  by_cases hs : szL l 1048576 < 0
  · go_enter Try.func6, Try.ntmps6
    go_wp2_with (first | (go_at_call 14; refine (szGroup_any _ _ _ _ (hg _ hE) ((by omega)) ((by omega))).mono ?_; rintro e w' ⟨rfl, hE'⟩; replace hE := hE.trans hE'; clear hE'))
    go_ret
    exact ⟨rfl, hE0.trans hE⟩
  · have hs' : 0 ≤ szL l 1048576 := by omega
    have hl20 : l.length ≤ 1048576 := by unfold szL at hs'; split at hs' <;> omega
    clear hs
    go_enter Try.func6, Try.ntmps6
    go_wp2_with (first | (go_at_call 14; refine (szGroup_any _ _ _ _ (hg _ hE) ((by omega)) ((by omega))).mono ?_; rintro e w' ⟨rfl, hE'⟩; replace hE := hE.trans hE'; clear hE'))
    refine (toGroup_any _ _ _ (hg _ hE)).mono ?_
    rintro e w1 ⟨v1, rfl, hO1, hE1⟩
    replace hE := hE.trans hE1
    go_wp2_with fail
    refine (cS _ _ hO1.ints).mono ?_
    rintro e wS ⟨s1, s2, s3, s4, rfl, hOS, hES⟩
    obtain ⟨aS1, cS1, rfl, -⟩ := hOS.h1.shape
    obtain ⟨aS2, cS2, rfl, -⟩ := hOS.h2.shape
    obtain ⟨aS3, cS3, rfl, -⟩ := hOS.h3.shape
    obtain ⟨aS4, cS4, rfl, -⟩ := hOS.h4.shape
    unfold CV
    obtain ⟨wT, hwT⟩ : ∃ wT, wT = wS.alloc (.cells #[.int .i64 K1, .slice aS1 G.length cS1, .slice aS2 O.length cS2, .int .i64 K2, .int .i64 K3, .int .i64 K4, .int .i64 K5, .slice aS3 T.length cS3, .slice aS4 Q.length cS4, .int .i64 K6] 26) := ⟨_, rfl⟩
    have hST : Ext wS wT := by rw [hwT]; exact (Ext.refl _).alloc _
    have BS : Blk wT wS.heap.size 26 #[.int .i64 K1, .slice aS1 G.length cS1, .slice aS2 O.length cS2, .int .i64 K2, .int .i64 K3, .int .i64 K4, .int .i64 K5, .slice aS3 T.length cS3, .slice aS4 Q.length cS4, .int .i64 K6] := by rw [hwT]; exact Blk.new _ _ _
    have hEa := hE.trans (hES.trans hST)
    have hIS := hOS.ints.ext hST
    have kb := hb _ hEa
    rw [hwT] at kb
    have HwT := Lib.hid hwT
    clear hwT hE hES hOS hE1 hO1 hST
    go_wp2_with fail
    rw [← HwT.out]
    refine (toGroup_any _ _ _ (hg _ hEa)).mono ?_
    rintro e w2 ⟨v2, rfl, hO2, hE2⟩
    obtain ⟨ao2, c2, rfl, -⟩ := hO2.shape
    have hlen2 := hO2.2
    obtain ⟨wX, hwX⟩ : ∃ wX, wX = w2.alloc (.cells #[.slice ao2 l.length c2] 24) := ⟨_, rfl⟩
    have h2X : Ext w2 wX := by rw [hwX]; exact (Ext.refl _).alloc _
    clear kb
    have hx : ∀ W, Ext wX W → W.cell? ⟨w2.heap.size, 0, none⟩ = some (.slice ao2 l.length c2) := by rw [hwX]; exact box_cell w2 _ _
    have hO2X := hO2.ext h2X
    have HwX := Lib.hid hwX
    clear hwX
    go_wp2_with fail
    rw [← HwX.out]
    refine (cI _ _ hO2X.ints).mono ?_
    rintro e w3 ⟨g1, g2, g3, g4, rfl, hKG, hE3⟩
    obtain ⟨aG1, cG1, rfl, -⟩ := hKG.h1.shape
    obtain ⟨aG2, cG2, rfl, -⟩ := hKG.h2.shape
    obtain ⟨aG3, cG3, rfl, -⟩ := hKG.h3.shape
    obtain ⟨aG4, cG4, rfl, -⟩ := hKG.h4.shape
    have hBl := hKG.below
    unfold CV
    obtain ⟨wY, hwY⟩ : ∃ wY, wY = w3.alloc (.cells #[.int .i64 K1, .slice aG1 G.length cG1, .slice aG2 O.length cG2, .int .i64 K2, .int .i64 K3, .int .i64 K4, .int .i64 K5, .slice aG3 T.length cG3, .slice aG4 Q.length cG4, .int .i64 K6] 26) := ⟨_, rfl⟩
    have h3Y : Ext w3 wY := by rw [hwY]; exact (Ext.refl _).alloc _
    have hsY : w3.heap.size + 1 ≤ wY.heap.size := by rw [hwY]; simp [go_sem]
    have BG : Blk wY w3.heap.size 26 #[.int .i64 K1, .slice aG1 G.length cG1, .slice aG2 O.length cG2, .int .i64 K2, .int .i64 K3, .int .i64 K4, .int .i64 K5, .slice aG3 T.length cG3, .slice aG4 Q.length cG4, .int .i64 K6] := by rw [hwY]; exact Blk.new _ _ _
    have hTY := hE2.trans (h2X.trans (hE3.trans h3Y))
    have HwY := Lib.hid hwY
    have z0 := BG.cell (i := 0) rfl
    have z1 := BG.cell (i := 1) rfl
    have z2 := BG.cell (i := 2) rfl
    have z3 := BG.cell (i := 3) rfl
    have z4 := BG.cell (i := 4) rfl
    have z5 := BG.cell (i := 5) rfl
    have z6 := BG.cell (i := 6) rfl
    have z7 := BG.cell (i := 7) rfl
    have z8 := BG.cell (i := 8) rfl
    have z9 := BG.cell (i := 9) rfl
    have y0 := (BS.ext hTY).cell (i := 0) rfl
    have y1 := (BS.ext hTY).cell (i := 1) rfl
    have y2 := (BS.ext hTY).cell (i := 2) rfl
    have y3 := (BS.ext hTY).cell (i := 3) rfl
    have y4 := (BS.ext hTY).cell (i := 4) rfl
    have y5 := (BS.ext hTY).cell (i := 5) rfl
    have y6 := (BS.ext hTY).cell (i := 6) rfl
    have y7 := (BS.ext hTY).cell (i := 7) rfl
    have y8 := (BS.ext hTY).cell (i := 8) rfl
    have y9 := (BS.ext hTY).cell (i := 9) rfl
    rw [hwY] at z0 z1 z2 z3 z4 z5 z6 z7 z8 z9 y0 y1 y2 y3 y4 y5 y6 y7 y8 y9
    clear hwY
    go_wp2_with fail
    rw [← HwY.out]
    refine (eqClaim_same _ _ _ _ _ _ _ _ _ _ _ _ _ _ _ _ _ _ _ (hKG.ints.ext h3Y) (hIS.ext hTY)).mono ?_
    rintro e w4 ⟨rfl, hE4⟩
    clear z0 z1 z2 z3 z4 z5 z6 z7 z8 z9 y0 y1 y2 y3 y4 y5 y6 y7 y8 y9
    have hX4 := hE3.trans (h3Y.trans hE4)
    have kx := hx _ hX4
    have kb := hb _ (hEa.trans (hTY.trans hE4))
    go_wp2_with fail
    have hx' : ∀ W, Ext w4 W → W.cell? ⟨w2.heap.size, 0, none⟩ = some (.slice ao2 l.length c2) := fun W hW => hx _ (hX4.trans hW)
    have hb' : ∀ W, Ext w4 W → W.cell? ⟨w.heap.size, 0, none⟩ = some v := fun W hW => hb _ ((hEa.trans (hTY.trans hE4)).trans hW)
    have hD := (Ext.refl (w4)).drew
    first | (go_region_held3 (fun W => Ext (w4) W ∧ W.cell? ⟨w2.heap.size, 0, none⟩ = some (.slice ao2 l.length c2) ∧ W.cell? ⟨w.heap.size, 0, none⟩ = some v) (exact ⟨(by repeat (first | assumption | exact Ext.refl _ | (apply And.left; assumption) | apply Ext.drew | apply Ext.alloc)), hx' _ (by repeat (first | assumption | exact Ext.refl _ | (apply And.left; assumption) | apply Ext.drew | apply Ext.alloc)), hb' _ (by repeat (first | assumption | exact Ext.refl _ | (apply And.left; assumption) | apply Ext.drew | apply Ext.alloc))⟩) (first | (go_at_call 16; ((with_reducible refine Calls.mono (toGroup_any _ _ _ (hg _ ((hEa.trans (hTY.trans hE4)).trans (by repeat (first | assumption | exact Ext.refl _ | (apply And.left; assumption) | apply Ext.drew | apply Ext.alloc))))) ?_); rintro e wH0 ⟨v4, rfl, hO4, hX0⟩; have hH0 := Ext.trans (a := w4) (by repeat (first | assumption | exact Ext.refl _ | (apply And.left; assumption) | apply Ext.drew | apply Ext.alloc)) hX0)) | (go_at_call 18; ((with_reducible refine Calls.mono (eqGroup_any _ _ _ _ _ (hO2X.ints.ext (hX4.trans (by repeat (first | assumption | exact Ext.refl _ | (apply And.left; assumption) | apply Ext.drew | apply Ext.alloc)))) hO4.ints) ?_); rintro e wH1 ⟨rfl, hX1⟩; have hH1 := Ext.trans (a := w4) (by repeat (first | assumption | exact Ext.refl _ | (apply And.left; assumption) | apply Ext.drew | apply Ext.alloc)) hX1)))) | (fail "the region with calls")
    obtain ⟨w5, h45⟩ : ∃ w5, Ext w4 w5 ∧ w5 = wH1 := ⟨_, by repeat (first | assumption | exact Ext.refl _ | (apply And.left; assumption) | apply Ext.drew | apply Ext.alloc), rfl⟩
    obtain ⟨h45, rfl⟩ := h45
    have kx5 := hx' _ h45
    have hT5 := hTY.trans (hE4.trans h45)
    have hY5 := hE4.trans h45
    go_wp2_with fail
    refine (markGroup_any _ _ _ _ _ (hO2X.ext (hX4.trans h45)) (by omega) (by omega)).mono ?_
    rintro e w6 ⟨rfl, hO6, hG6⟩
    have b2 := hO2.blk
    have s2X := h2X.size
    have s3 := hE3.size
    have hKG6 := (hKG.ext (h3Y.trans hY5)).kept hG6 (fun k hk => by have := (b2 k hk).2; omega)
    have hT6 := hT5.grown hG6 (fun k hk => (b2 k hk).1)
    have BG6 := (BG.ext hY5).grown hG6 (fun k hk => by have := (b2 k hk).2; omega)
    have s6 : w3.heap.size + 1 ≤ w6.heap.size := by have := hY5.size; have := hG6.size; omega
    have z0 := BG6.cell (i := 0) rfl
    have z1 := BG6.cell (i := 1) rfl
    have z2 := BG6.cell (i := 2) rfl
    have z3 := BG6.cell (i := 3) rfl
    have z4 := BG6.cell (i := 4) rfl
    have z5 := BG6.cell (i := 5) rfl
    have z6 := BG6.cell (i := 6) rfl
    have z7 := BG6.cell (i := 7) rfl
    have z8 := BG6.cell (i := 8) rfl
    have z9 := BG6.cell (i := 9) rfl
    have y0 := (BS.ext hT6).cell (i := 0) rfl
    have y1 := (BS.ext hT6).cell (i := 1) rfl
    have y2 := (BS.ext hT6).cell (i := 2) rfl
    have y3 := (BS.ext hT6).cell (i := 3) rfl
    have y4 := (BS.ext hT6).cell (i := 4) rfl
    have y5 := (BS.ext hT6).cell (i := 5) rfl
    have y6 := (BS.ext hT6).cell (i := 6) rfl
    have y7 := (BS.ext hT6).cell (i := 7) rfl
    have y8 := (BS.ext hT6).cell (i := 8) rfl
    have y9 := (BS.ext hT6).cell (i := 9) rfl
    have hk0 : 0 ≤ 1 + (l.length : Int) := by omega
    clear hx hx' hb' kx kx5 kb hX4 hD hO6 hG6
    go_wp2_with fail
    refine (eqClaim_same _ _ _ _ _ _ _ _ _ _ _ _ _ _ _ _ _ _ _ hKG6.ints (hIS.ext hT6)).mono ?_
    rintro e w7 ⟨rfl, hE7⟩
    have BG7 := BG6.ext hE7
    clear z0 z1 z2 z3 z4 z5 z6 z7 z8 z9 y0 y1 y2 y3 y4 y5 y6 y7 y8 y9
    have z0 := BG7.cell (i := 0) rfl
    have z1 := BG7.cell (i := 1) rfl
    have z2 := BG7.cell (i := 2) rfl
    have z3 := BG7.cell (i := 3) rfl
    have z4 := BG7.cell (i := 4) rfl
    have z5 := BG7.cell (i := 5) rfl
    have z6 := BG7.cell (i := 6) rfl
    have z7 := BG7.cell (i := 7) rfl
    have z8 := BG7.cell (i := 8) rfl
    have z9 := BG7.cell (i := 9) rfl
    go_wp2_with fail
    refine (markClaim_any _ _ _ _ _ _ _ _ _ _ _ _ _ _ _ _ _ _ (hKG6.ext hE7) hBl (by have := hE7.size; omega) (by omega) (by omega) (by omega) (by omega) (by omega)).mono ?_
    rintro e w8 ⟨rfl, hK8, hX8, -, hB8⟩
    have hT8 := hX8 wT (hT6.trans hE7) (by have := hE2.size; have := h2X.size; omega)
    have BG8 := hB8 _ _ _ (Nat.le_refl _) BG7
    clear z0 z1 z2 z3 z4 z5 z6 z7 z8 z9 hX8 hB8
    have z0 := BG8.cell (i := 0) rfl
    have z1 := BG8.cell (i := 1) rfl
    have z2 := BG8.cell (i := 2) rfl
    have z3 := BG8.cell (i := 3) rfl
    have z4 := BG8.cell (i := 4) rfl
    have z5 := BG8.cell (i := 5) rfl
    have z6 := BG8.cell (i := 6) rfl
    have z7 := BG8.cell (i := 7) rfl
    have z8 := BG8.cell (i := 8) rfl
    have z9 := BG8.cell (i := 9) rfl
    go_wp2_with fail
    refine (heldClaim_any _ _ _ _ _ _ _ _ _ _ _ _ _ _ _ _ hK8.ints (by omega) (by omega) (by omega) (by omega) (by omega) (by omega)).mono ?_
    rintro e w9 ⟨rfl, hE9⟩
    clear z0 z1 z2 z3 z4 z5 z6 z7 z8 z9
    have kb9 := hb _ (hEa.trans (hT8.trans hE9))
    go_wp2_with fail
    refine (toGroup_any _ _ _ (hg _ (hEa.trans (hT8.trans hE9)))).mono ?_
    rintro e wA ⟨vA, rfl, hOA, hEA⟩
    go_wp2_with fail
    refine (cI _ _ hOA.ints).mono ?_
    rintro e wB ⟨h1, h2, h3, h4, rfl, hKH, hEB⟩
    obtain ⟨aH1, cH1, rfl, -⟩ := hKH.h1.shape
    obtain ⟨aH2, cH2, rfl, -⟩ := hKH.h2.shape
    obtain ⟨aH3, cH3, rfl, -⟩ := hKH.h3.shape
    obtain ⟨aH4, cH4, rfl, -⟩ := hKH.h4.shape
    unfold CV
    obtain ⟨wC, hwC⟩ : ∃ wC, wC = wB.alloc (.cells #[.int .i64 K1, .slice aH1 G.length cH1, .slice aH2 O.length cH2, .int .i64 K2, .int .i64 K3, .int .i64 K4, .int .i64 K5, .slice aH3 T.length cH3, .slice aH4 Q.length cH4, .int .i64 K6] 26) := ⟨_, rfl⟩
    have hBC : Ext wB wC := by rw [hwC]; exact (Ext.refl _).alloc _
    have BH : Blk wC wB.heap.size 26 #[.int .i64 K1, .slice aH1 G.length cH1, .slice aH2 O.length cH2, .int .i64 K2, .int .i64 K3, .int .i64 K4, .int .i64 K5, .slice aH3 T.length cH3, .slice aH4 Q.length cH4, .int .i64 K6] := by rw [hwC]; exact Blk.new _ _ _
    have h8C := hE9.trans (hEA.trans (hEB.trans hBC))
    have hTC := hT8.trans h8C
    have HwC := Lib.hid hwC
    have z0 := BH.cell (i := 0) rfl
    have z1 := BH.cell (i := 1) rfl
    have z2 := BH.cell (i := 2) rfl
    have z3 := BH.cell (i := 3) rfl
    have z4 := BH.cell (i := 4) rfl
    have z5 := BH.cell (i := 5) rfl
    have z6 := BH.cell (i := 6) rfl
    have z7 := BH.cell (i := 7) rfl
    have z8 := BH.cell (i := 8) rfl
    have z9 := BH.cell (i := 9) rfl
    have y0 := (BS.ext hTC).cell (i := 0) rfl
    have y1 := (BS.ext hTC).cell (i := 1) rfl
    have y2 := (BS.ext hTC).cell (i := 2) rfl
    have y3 := (BS.ext hTC).cell (i := 3) rfl
    have y4 := (BS.ext hTC).cell (i := 4) rfl
    have y5 := (BS.ext hTC).cell (i := 5) rfl
    have y6 := (BS.ext hTC).cell (i := 6) rfl
    have y7 := (BS.ext hTC).cell (i := 7) rfl
    have y8 := (BS.ext hTC).cell (i := 8) rfl
    have y9 := (BS.ext hTC).cell (i := 9) rfl
    rw [hwC] at z0 z1 z2 z3 z4 z5 z6 z7 z8 z9 y0 y1 y2 y3 y4 y5 y6 y7 y8 y9
    clear hwC kb9
    go_wp2_with fail
    rw [← HwC.out]
    refine (eqClaim_same _ _ _ _ _ _ _ _ _ _ _ _ _ _ _ _ _ _ _ (hKH.ints.ext hBC) (hIS.ext hTC)).mono ?_
    rintro e wD ⟨rfl, hED⟩
    clear z0 z1 z2 z3 z4 z5 z6 z7 z8 z9 y0 y1 y2 y3 y4 y5 y6 y7 y8 y9
    have BG9 := BG8.ext (h8C.trans hED)
    have z0 := BG9.cell (i := 0) rfl
    have z1 := BG9.cell (i := 1) rfl
    have z2 := BG9.cell (i := 2) rfl
    have z3 := BG9.cell (i := 3) rfl
    have z4 := BG9.cell (i := 4) rfl
    have z5 := BG9.cell (i := 5) rfl
    have z6 := BG9.cell (i := 6) rfl
    have z7 := BG9.cell (i := 7) rfl
    have z8 := BG9.cell (i := 8) rfl
    have z9 := BG9.cell (i := 9) rfl
    go_wp2_with fail
    refine (heldClaim_any _ _ _ _ _ _ _ _ _ _ _ _ _ _ _ _ (hK8.ints.ext (h8C.trans hED)) (by omega) (by omega) (by omega) (by omega) (by omega) (by omega)).mono ?_
    rintro e wF ⟨rfl, hEF⟩
    go_wp2_with fail
    go_ret
    exact ⟨rfl, hE0.trans (hEa.trans (hTC.trans (hED.trans hEF)))⟩



end Go.Proofs.Ytopmhjmjmdohhaa
