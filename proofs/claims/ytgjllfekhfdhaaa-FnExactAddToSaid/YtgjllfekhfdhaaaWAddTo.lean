/- AddTo of the program and of the reference: the walk of the law. -/
import Derived.Test.YtgjllfekhfdhaaaC4
import Derived.Deep.RegionHeld3
import Derived.Deep.RegionWith
import Derived.Deep.DeepCutAuto
import Derived.Test.YtgjllfekhfdhaaaC50
import Derived.Test.YtgjllfekhfdhaaaTk
namespace Go.Proofs.Ytgjllfekhfdhaaa
open Go.RowKit Go.Zz
set_option maxHeartbeats 1000000
set_option linter.unusedVariables false

theorem FnExactAddTo_walk {w : World} {v u : Value} {l m : List Int} {n : Int} (hv : Ints w v l) (hu : Ints w u m) (_ : (Lit.int .i64 n).wf = true) (x : Int) (_ : -9223372036854775808 ≤ x ∧ x ≤ 9223372036854775807) :
    Calls Try.prog 7 #[.agg #[v, .int .i64 n, u], .int .i64 x] w fun e w' => e = .returned (.bool true) ∧ Ext w w' := by
  have hlr : (kvL (adB l n m x) l).length ≤ l.length := (by unfold kvL; split <;> simp)
  obtain ⟨L, hL⟩ : ∃ L, L = kvL (adB l n m x) l := ⟨_, rfl⟩
  obtain ⟨N, hN⟩ : ∃ N, N = kvN (adB l n m x) (adS n x) := ⟨_, rfl⟩
  obtain ⟨M, hM⟩ : ∃ M, M = kvM (adB l n m x) l (adS n x) := ⟨_, rfl⟩
  obtain ⟨R, hR⟩ : ∃ R, R = adB l n m x := ⟨_, rfl⟩
  have cS : ∀ c W, IsK W c l n m → Calls Try.prog 50 #[c, .int .i64 x] W fun e w' => ∃ d, e = .returned (.tuple #[d, .bool R]) ∧ OwnK2 W w' d L N M ∧ Ext W w' := fun c W hc => by subst hL hN hM hR; exact sAddTo_any c l m n x W hc
  have cI : ∀ c W, IsK W c l n m → Calls Try.prog 52 #[c, .int .i64 x] W fun e w' => ∃ d, e = .returned (.tuple #[d, .bool R]) ∧ OwnK2 W w' d L N M ∧ Ext W w' := fun c W hc => by subst hL hN hM hR; exact AddTo_any c l m n x W hc
  rw [← hL] at hlr
  clear hL hN hM hR
  have hq : eqK L M N L M N = true := by simp [eqK]
  have hq0 : eqK l m n l m n = true := by simp [eqK]
  obtain ⟨wb, hwb⟩ : ∃ wb, wb = w.alloc (.cells #[v, .int .i64 n, u] 62) := ⟨_, rfl⟩
  have e0 : Ext w wb := by rw [hwb]; exact (Ext.refl _).alloc _
  have B0 : Blk wb w.heap.size 62 #[v, .int .i64 n, u] := by rw [hwb]; exact Blk.new _ _ _
  have a0 : ∀ W, Ext wb W → W.cell? ⟨w.heap.size, 0, none⟩ = some v := fun W hW => (B0.ext hW).cell (i := 0) rfl
  have a1 : ∀ W, Ext wb W → W.cell? ⟨w.heap.size, 1, none⟩ = some (.int .i64 n) := fun W hW => (B0.ext hW).cell (i := 1) rfl
  have a2 : ∀ W, Ext wb W → W.cell? ⟨w.heap.size, 2, none⟩ = some u := fun W hW => (B0.ext hW).cell (i := 2) rfl
  have hc : Hid (∀ W, Ext wb W → IsK W (.agg #[v, .int .i64 n, u]) l n m) := Lib.hid fun W hW => ⟨v, u, rfl, hv.ext (e0.trans hW), hu.ext (e0.trans hW)⟩
  have hE := Ext.refl wb
  have Hwb := Lib.hid hwb
  clear hwb B0 hv hu
  by_cases s1 : szK l m 1048576 < 0
  · go_enter Try.func7, Try.ntmps7
    go_wp2_with fail
    rw [← Hwb.out]
    refine (szKept_any _ _ _ _ _ _ (hc.out _ hE) (by omega) (by omega)).mono ?_
    rintro e w1 ⟨rfl, hE1⟩
    go_wp2_with fail
    go_ret
    exact ⟨rfl, e0.trans hE1⟩
  · have s1' : 0 ≤ szK l m 1048576 := by omega
    have hlm20 : l.length ≤ 1048576 ∧ m.length ≤ 1048576 := by unfold szK szL at s1'; (repeat' split at s1') <;> omega
    obtain ⟨hl20, hm20⟩ := hlm20
    clear s1
    go_enter Try.func7, Try.ntmps7
    go_wp2_with fail
    rw [← Hwb.out]
    refine (szKept_any _ _ _ _ _ _ (hc.out _ hE) (by omega) (by omega)).mono ?_
    rintro e w1 ⟨rfl, hE1⟩
    have z0 := a0 _ hE1
    have z1 := a1 _ hE1
    have z2 := a2 _ hE1
    go_wp2_with fail
    refine (toKept2_any _ _ _ _ _ (hc.out _ hE1)).mono ?_
    rintro e w2 ⟨c2, rfl, hK2, hE2⟩
    go_wp2_with fail
    refine (cS _ _ hK2.isK).mono ?_
    rintro e wS ⟨cS0, rfl, ⟨vS, uS, rfl, hOS, hPS, -⟩, hES⟩
    obtain ⟨aoS, kS, rfl, -⟩ := hOS.shape
    obtain ⟨apS, jS, rfl, -⟩ := hPS.shape
    clear z0 z1 z2
    obtain ⟨wT, hwT⟩ : ∃ wT, wT = wS.alloc (.cells #[.slice aoS L.length kS, .int .i64 N, .slice apS M.length jS] 65) := ⟨_, rfl⟩
    have hST : Ext wS wT := by rw [hwT]; exact (Ext.refl _).alloc _
    have BS : Blk wT wS.heap.size 65 #[.slice aoS L.length kS, .int .i64 N, .slice apS M.length jS] := by rw [hwT]; exact Blk.new _ _ _
    have hEa := hE1.trans (hE2.trans (hES.trans hST))
    have hIS := hOS.ints.ext hST
    have hJS := hPS.ints.ext hST
    have z0 := a0 _ hEa
    have z1 := a1 _ hEa
    have z2 := a2 _ hEa
    rw [hwT] at z0 z1 z2
    have HwT := Lib.hid hwT
    clear hwT hE hES hOS hPS hE1 hE2 hST hK2
    go_wp2_with fail
    rw [← HwT.out]
    refine (toKept2_any _ _ _ _ _ (hc.out _ hEa)).mono ?_
    rintro e w2 ⟨cX, rfl, hKX, hE2⟩
    have hBX := hKX.below
    obtain ⟨vX, uX, rfl, hOX, hPX, hdX⟩ := hKX
    obtain ⟨ao2, c2, rfl, -⟩ := hOX.shape
    obtain ⟨ap2, d2, rfl, -⟩ := hPX.shape
    clear z0 z1 z2
    obtain ⟨wX, hwX⟩ : ∃ wX, wX = w2.alloc (.cells #[.slice ao2 l.length c2, .int .i64 n, .slice ap2 m.length d2] 65) := ⟨_, rfl⟩
    have h2X : Ext w2 wX := by rw [hwX]; exact (Ext.refl _).alloc _
    have BX : Blk wX w2.heap.size 65 #[.slice ao2 l.length c2, .int .i64 n, .slice ap2 m.length d2] := by rw [hwX]; exact Blk.new _ _ _
    have hKX : OwnK2 wT wX (.agg #[.slice ao2 l.length c2, .int .i64 n, .slice ap2 m.length d2]) l n m := ⟨_, _, rfl, hOX.ext h2X, hPX.ext h2X, hdX⟩
    have z0 := BX.cell (i := 0) (v := .slice ao2 l.length c2) rfl
    have z1 := BX.cell (i := 1) (v := .int .i64 n) rfl
    have z2 := BX.cell (i := 2) (v := .slice ap2 m.length d2) rfl
    rw [hwX] at z0 z1 z2
    have HwX := Lib.hid hwX
    clear hwX hOX hPX hdX
    go_wp2_with fail
    rw [← HwX.out]
    refine (cI _ _ hKX.isK).mono ?_
    rintro e w3 ⟨cG, rfl, hKG, hE3⟩
    have hBl := hKG.below
    obtain ⟨vG, uG, rfl, hOG, hPG, hdG⟩ := hKG
    obtain ⟨aoG, kG, rfl, -⟩ := hOG.shape
    obtain ⟨apG, jG, rfl, -⟩ := hPG.shape
    have hKG : OwnK2 wX w3 (.agg #[.slice aoG L.length kG, .int .i64 N, .slice apG M.length jG]) L N M := ⟨_, _, rfl, hOG, hPG, hdG⟩
    clear z0 z1 z2
    obtain ⟨wY, hwY⟩ : ∃ wY, wY = w3.alloc (.cells #[.slice aoG L.length kG, .int .i64 N, .slice apG M.length jG] 65) := ⟨_, rfl⟩
    have h3Y : Ext w3 wY := by rw [hwY]; exact (Ext.refl _).alloc _
    have hsY : w3.heap.size + 1 ≤ wY.heap.size := by rw [hwY]; simp [go_sem]
    have BG : Blk wY w3.heap.size 65 #[.slice aoG L.length kG, .int .i64 N, .slice apG M.length jG] := by rw [hwY]; exact Blk.new _ _ _
    have hTY := hE2.trans (h2X.trans (hE3.trans h3Y))
    have HwY := Lib.hid hwY
    have z0 := BG.cell (i := 0) rfl
    have z1 := BG.cell (i := 1) rfl
    have z2 := BG.cell (i := 2) rfl
    have y0 := (BS.ext hTY).cell (i := 0) rfl
    have y1 := (BS.ext hTY).cell (i := 1) rfl
    have y2 := (BS.ext hTY).cell (i := 2) rfl
    rw [hwY] at z0 z1 z2 y0 y1 y2
    clear hwY hOG hPG hdG
    go_wp2_with fail
    rw [← HwY.out]
    refine (eqKept_any _ _ _ _ _ _ _ _ _ (hKG.ext h3Y).isK ⟨_, _, rfl, hIS.ext hTY, hJS.ext hTY⟩).mono ?_
    rintro e w4 ⟨rfl, hE4⟩
    clear z0 z1 z2 y0 y1 y2
    have hX4 := hE3.trans (h3Y.trans hE4)
    have hEd := hEa.trans (hTY.trans hE4)
    have b0 : ∀ W, Ext w4 W → W.cell? ⟨w.heap.size, 0, none⟩ = some v := fun W hW => a0 W (hEd.trans hW)
    have b1 : ∀ W, Ext w4 W → W.cell? ⟨w.heap.size, 1, none⟩ = some (.int .i64 n) := fun W hW => a1 W (hEd.trans hW)
    have b2 : ∀ W, Ext w4 W → W.cell? ⟨w.heap.size, 2, none⟩ = some u := fun W hW => a2 W (hEd.trans hW)
    have X0 := fun W (hW : Ext w4 W) => (BX.ext (hX4.trans hW)).cell (i := 0) (v := .slice ao2 l.length c2) rfl
    have X1 := fun W (hW : Ext w4 W) => (BX.ext (hX4.trans hW)).cell (i := 1) (v := .int .i64 n) rfl
    have X2 := fun W (hW : Ext w4 W) => (BX.ext (hX4.trans hW)).cell (i := 2) (v := .slice ap2 m.length d2) rfl
    go_wp2_with fail
    have hD := (Ext.refl (w4)).drew
    first | (go_region_held3 (fun W => Ext (w4) W ∧ W.cell? ⟨w2.heap.size, 0, none⟩ = some (.slice ao2 l.length c2) ∧ W.cell? ⟨w2.heap.size, 1, none⟩ = some (.int .i64 n) ∧ W.cell? ⟨w2.heap.size, 2, none⟩ = some (.slice ap2 m.length d2) ∧ W.cell? ⟨w.heap.size, 0, none⟩ = some v ∧ W.cell? ⟨w.heap.size, 1, none⟩ = some (.int .i64 n) ∧ W.cell? ⟨w.heap.size, 2, none⟩ = some u) (exact ⟨(by repeat (first | assumption | exact Ext.refl _ | (apply And.left; assumption) | apply Ext.drew | apply Ext.alloc)), X0 _ (by repeat (first | assumption | exact Ext.refl _ | (apply And.left; assumption) | apply Ext.drew | apply Ext.alloc)), X1 _ (by repeat (first | assumption | exact Ext.refl _ | (apply And.left; assumption) | apply Ext.drew | apply Ext.alloc)), X2 _ (by repeat (first | assumption | exact Ext.refl _ | (apply And.left; assumption) | apply Ext.drew | apply Ext.alloc)), b0 _ (by repeat (first | assumption | exact Ext.refl _ | (apply And.left; assumption) | apply Ext.drew | apply Ext.alloc)), b1 _ (by repeat (first | assumption | exact Ext.refl _ | (apply And.left; assumption) | apply Ext.drew | apply Ext.alloc)), b2 _ (by repeat (first | assumption | exact Ext.refl _ | (apply And.left; assumption) | apply Ext.drew | apply Ext.alloc))⟩) (first | (go_at_call 51; ((with_reducible refine Calls.mono (toKept_any _ _ _ _ _ (hc.out _ (hEd.trans (by repeat (first | assumption | exact Ext.refl _ | (apply And.left; assumption) | apply Ext.drew | apply Ext.alloc))))) ?_); rintro e wH0 ⟨c5, rfl, hK5, hX0⟩; have hH0 := Ext.trans (a := w4) (by repeat (first | assumption | exact Ext.refl _ | (apply And.left; assumption) | apply Ext.drew | apply Ext.alloc)) hX0)) | (go_at_call 53; ((with_reducible refine Calls.mono (eqKept_any _ _ _ _ _ _ _ _ _ ((hKX.ext hX4).isK.ext (by repeat (first | assumption | exact Ext.refl _ | (apply And.left; assumption) | apply Ext.drew | apply Ext.alloc))) hK5.isK) ?_); rintro e wH1 ⟨rfl, hX1⟩; have hH1 := Ext.trans (a := w4) (by repeat (first | assumption | exact Ext.refl _ | (apply And.left; assumption) | apply Ext.drew | apply Ext.alloc)) hX1)))) | (fail "the region with calls")
    obtain ⟨w5, h45⟩ : ∃ w5, Ext w4 w5 ∧ w5 = wH1 := ⟨_, by repeat (first | assumption | exact Ext.refl _ | (apply And.left; assumption) | apply Ext.drew | apply Ext.alloc), rfl⟩
    obtain ⟨h45, rfl⟩ := h45
    have hT5 := hTY.trans (hE4.trans h45)
    have hY5 := hE4.trans h45
    have z0 := X0 _ h45
    have z1 := X1 _ h45
    have z2 := X2 _ h45
    clear X0 X1 X2 b0 b1 b2
    go_wp2_with fail
    have sE2 := hE2.size
    have s2X := h2X.size
    have s3 := hE3.size
    have s5 := hX4.size
    have s45 := h45.size
    refine (markKept_any _ _ _ _ _ _ _ _ (hKX.ext (hX4.trans h45)) hBX (by omega) (by omega) (by omega) (by omega)).mono ?_
    rintro e w6 ⟨rfl, hK6, hX6, hO6, hB6⟩
    clear z0 z1 z2
    have hKG6 : OwnK2 wX w6 (.agg #[.slice aoG L.length kG, .int .i64 N, .slice apG M.length jG]) L N M := by
      obtain ⟨p1, p2, pe, q1, q2, q3⟩ := hKG.ext (h3Y.trans hY5)
      exact ⟨p1, p2, pe, hO6 _ _ _ (by omega) q1, hO6 _ _ _ (by omega) q2, q3⟩
    have hT6 := hX6 wT hT5 (Nat.le_refl _)
    have BG6 := hB6 _ _ _ (by omega) (BG.ext hY5)
    have s6 : w3.heap.size + 1 ≤ w6.heap.size := by have := BG6.lt; omega
    have z0 := BG6.cell (i := 0) rfl
    have z1 := BG6.cell (i := 1) rfl
    have z2 := BG6.cell (i := 2) rfl
    have y0 := (BS.ext hT6).cell (i := 0) rfl
    have y1 := (BS.ext hT6).cell (i := 1) rfl
    have y2 := (BS.ext hT6).cell (i := 2) rfl
    have hk0 : 0 ≤ 1 + (l.length : Int) + (m.length : Int) := by omega
    clear hX4 hD hK6 hX6 hO6 hB6
    go_wp2_with fail
    refine (eqKept_any _ _ _ _ _ _ _ _ _ hKG6.isK ⟨_, _, rfl, hIS.ext hT6, hJS.ext hT6⟩).mono ?_
    rintro e w7 ⟨rfl, hE7⟩
    have BG7 := BG6.ext hE7
    clear z0 z1 z2 y0 y1 y2
    have z0 := BG7.cell (i := 0) rfl
    have z1 := BG7.cell (i := 1) rfl
    have z2 := BG7.cell (i := 2) rfl
    go_wp2_with fail
    refine (markKept_any _ _ _ _ _ _ _ _ (hKG6.ext hE7) hBl (by have := hE7.size; omega) (by omega) (by omega) (by omega)).mono ?_
    rintro e w8 ⟨rfl, hK8, hX8, -, hB8⟩
    have hT8 := hX8 wT (hT6.trans hE7) (by omega)
    have BG8 := hB8 _ _ _ (Nat.le_refl _) BG7
    clear z0 z1 z2 hX8 hB8
    have z0 := BG8.cell (i := 0) rfl
    have z1 := BG8.cell (i := 1) rfl
    have z2 := BG8.cell (i := 2) rfl
    have hlm : M.length ≤ 17592186044416 := by obtain ⟨_, _, _, _, hm, _⟩ := hKG; exact hm.2
    go_wp2_with fail
    refine (heldKept_any _ _ _ _ _ _ hK8.isK (by omega) (by omega) (by omega) hlm).mono ?_
    rintro e w9 ⟨rfl, hE9⟩
    clear z0 z1 z2
    have z0 := a0 _ (hEa.trans (hT8.trans hE9))
    have z1 := a1 _ (hEa.trans (hT8.trans hE9))
    have z2 := a2 _ (hEa.trans (hT8.trans hE9))
    go_wp2_with fail
    refine (toKept2_any _ _ _ _ _ (hc.out _ (hEa.trans (hT8.trans hE9)))).mono ?_
    rintro e wA ⟨cA, rfl, hKA, hEA⟩
    go_wp2_with fail
    refine (cI _ _ hKA.isK).mono ?_
    rintro e wB ⟨cH, rfl, hKH, hEB⟩
    obtain ⟨vH, uH, rfl, hOH, hPH, -⟩ := hKH
    obtain ⟨aoH, kH, rfl, -⟩ := hOH.shape
    obtain ⟨apH, jH, rfl, -⟩ := hPH.shape
    clear z0 z1 z2
    obtain ⟨wC, hwC⟩ : ∃ wC, wC = wB.alloc (.cells #[.slice aoH L.length kH, .int .i64 N, .slice apH M.length jH] 65) := ⟨_, rfl⟩
    have hBC : Ext wB wC := by rw [hwC]; exact (Ext.refl _).alloc _
    have BH : Blk wC wB.heap.size 65 #[.slice aoH L.length kH, .int .i64 N, .slice apH M.length jH] := by rw [hwC]; exact Blk.new _ _ _
    have h8C := hE9.trans (hEA.trans (hEB.trans hBC))
    have hTC := hT8.trans h8C
    have HwC := Lib.hid hwC
    have z0 := BH.cell (i := 0) rfl
    have z1 := BH.cell (i := 1) rfl
    have z2 := BH.cell (i := 2) rfl
    have y0 := (BS.ext hTC).cell (i := 0) rfl
    have y1 := (BS.ext hTC).cell (i := 1) rfl
    have y2 := (BS.ext hTC).cell (i := 2) rfl
    rw [hwC] at z0 z1 z2 y0 y1 y2
    clear hwC
    go_wp2_with fail
    rw [← HwC.out]
    refine (eqKept_any _ _ _ _ _ _ _ _ _ ⟨_, _, rfl, hOH.ints.ext hBC, hPH.ints.ext hBC⟩ ⟨_, _, rfl, hIS.ext hTC, hJS.ext hTC⟩).mono ?_
    rintro e wD ⟨rfl, hED⟩
    clear z0 z1 z2 y0 y1 y2
    have BG9 := BG8.ext (h8C.trans hED)
    have z0 := BG9.cell (i := 0) rfl
    have z1 := BG9.cell (i := 1) rfl
    have z2 := BG9.cell (i := 2) rfl
    go_wp2_with fail
    refine (heldKept_any _ _ _ _ _ _ (hK8.isK.ext (h8C.trans hED)) (by omega) (by omega) (by omega) hlm).mono ?_
    rintro e wF ⟨rfl, hEF⟩
    go_wp2_with fail
    go_ret
    exact ⟨rfl, e0.trans (hEa.trans (hTC.trans (hED.trans hEF)))⟩



end Go.Proofs.Ytgjllfekhfdhaaa
