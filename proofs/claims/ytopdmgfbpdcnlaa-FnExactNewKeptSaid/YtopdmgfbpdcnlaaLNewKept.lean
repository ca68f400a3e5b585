/- NewKept of the program and of the reference return the same for all arguments. Conditions: none. -/
import Derived.Test.YtopdmgfbpdcnlaaC4
import Derived.Deep.RegionHeld3
import Derived.Deep.RegionWith
import Derived.Deep.DeepCutAuto
import Derived.Test.YtopdmgfbpdcnlaaC35
import Derived.Test.YtopdmgfbpdcnlaaOp
import Derived.Test.YtopdmgfbpdcnlaaRows
namespace Go.Proofs.Ytopdmgfbpdcnlaa
open Go.ChangeShapes Go.WideShapes Go.ChangeAt Go.RowKit Go.Zz
set_option maxHeartbeats 400000
set_option linter.unusedVariables false

theorem FnExactNewKept_walk {v : Value} {l : List Int} {w : World} (h : Ints w v l) (a : Int) (_ : -9223372036854775808 ≤ a ∧ a ≤ 9223372036854775807) :
    Calls Try.prog 4 #[.agg #[v], .int .i64 a] w fun e w' => e = .returned (.bool true) ∧ Ext w w' := by
  have hlr : (nkL l a).length ≤ l.length := (by unfold nkL; split <;> simp)
  obtain ⟨L, hL⟩ : ∃ L, L = nkL l a := ⟨_, rfl⟩
  obtain ⟨N, hN⟩ : ∃ N, N = nkN l a := ⟨_, rfl⟩
  obtain ⟨M, hM⟩ : ∃ M, M = tabF l a a := ⟨_, rfl⟩
  obtain ⟨R, hR⟩ : ∃ R, R = isSetB l a := ⟨_, rfl⟩
  have cS : ∀ u W, Ints W u l → Calls Try.prog 20 #[.agg #[u], .int .i64 a] W fun e w' => ∃ c, e = .returned (.tuple #[c, .bool R]) ∧ OwnK2 W w' c L N M ∧ Ext W w' := fun u W hu => by subst hL hN hM hR; exact sNewKept_any u l a W hu
  have cI : ∀ u W, Ints W u l → Calls Try.prog 21 #[.agg #[u], .int .i64 a] W fun e w' => ∃ c, e = .returned (.tuple #[c, .bool R]) ∧ OwnK2 W w' c L N M ∧ Ext W w' := fun u W hu => by subst hL hN hM hR; exact NewKept_any u l a W hu
  rw [← hL] at hlr
  clear hL hN hM hR
  have hq : eqK L M N L M N = true := by simp [eqK]
  have hE0 := (Ext.refl w).alloc (.cells #[v] 24)
  have hE := Ext.refl (w.alloc (.cells #[v] 24))
  have hb := box_cell w v 24
  have hg : ∀ W, Ext (w.alloc (.cells #[v] 24)) W → Ints W v l := fun W hW => h.ext (hE0.trans hW)
  clear h
  by_cases hs : szL l 1048576 < 0
  · go_enter Try.func4, Try.ntmps4
    go_wp2_with (first | (go_at_call 15; refine (szGroup_any _ _ _ _ (hg _ hE) ((by omega)) ((by omega))).mono ?_; rintro e w' ⟨rfl, hE'⟩; replace hE := hE.trans hE'; clear hE'))
    go_ret
    exact ⟨rfl, hE0.trans hE⟩
  · have hs' : 0 ≤ szL l 1048576 := by omega
    have hl20 : l.length ≤ 1048576 := by unfold szL at hs'; split at hs' <;> omega
    clear hs
    go_enter Try.func4, Try.ntmps4
    go_wp2_with (first | (go_at_call 15; refine (szGroup_any _ _ _ _ (hg _ hE) ((by omega)) ((by omega))).mono ?_; rintro e w' ⟨rfl, hE'⟩; replace hE := hE.trans hE'; clear hE'))
    refine (toGroup_any _ _ _ (hg _ hE)).mono ?_
    rintro e w1 ⟨v1, rfl, hO1, hE1⟩
    replace hE := hE.trans hE1
    go_wp2_with fail
    refine (cS _ _ hO1.ints).mono ?_
    rintro e wS ⟨cS0, rfl, ⟨vS, uS, rfl, hOS, hPS, -⟩, hES⟩
    obtain ⟨aoS, kS, rfl, -⟩ := hOS.shape
    obtain ⟨apS, jS, rfl, -⟩ := hPS.shape
    obtain ⟨wT, hwT⟩ : ∃ wT, wT = wS.alloc (.cells #[.slice aoS L.length kS, .int .i64 N, .slice apS M.length jS] 33) := ⟨_, rfl⟩
    have hST : Ext wS wT := by rw [hwT]; exact (Ext.refl _).alloc _
    have BS : Blk wT wS.heap.size 33 #[.slice aoS L.length kS, .int .i64 N, .slice apS M.length jS] := by rw [hwT]; exact Blk.new _ _ _
    have hEa := hE.trans (hES.trans hST)
    have hIS := hOS.ints.ext hST
    have hJS := hPS.ints.ext hST
    have kb := hb _ hEa
    rw [hwT] at kb
    have HwT := Lib.hid hwT
    clear hwT hE hES hOS hPS hE1 hO1 hST
    go_wp2_with fail
    rw [← HwT.out]
    refine (toGroup_any _ _ _ (hg _ hEa)).mono ?_
    rintro e w2 ⟨v2, rfl, hO2, hE2⟩
    obtain ⟨ao2, c2, rfl, -⟩ := hO2.shape
    have hlen2 := hO2.2
    obtain ⟨wX, hwX⟩ : ∃ wX, wX = w2.alloc (.cells #[.slice ao2 l.length c2] 28) := ⟨_, rfl⟩
    have h2X : Ext w2 wX := by rw [hwX]; exact (Ext.refl _).alloc _
    clear kb
    have hx : ∀ W, Ext wX W → W.cell? ⟨w2.heap.size, 0, none⟩ = some (.slice ao2 l.length c2) := by rw [hwX]; exact box_cell w2 _ _
    have hO2X := hO2.ext h2X
    have HwX := Lib.hid hwX
    clear hwX
    go_wp2_with fail
    rw [← HwX.out]
    refine (cI _ _ hO2X.ints).mono ?_
    rintro e w3 ⟨cG, rfl, hKG, hE3⟩
    have hBl := hKG.below
    obtain ⟨vG, uG, rfl, hOG, hPG, hdG⟩ := hKG
    obtain ⟨aoG, kG, rfl, -⟩ := hOG.shape
    obtain ⟨apG, jG, rfl, -⟩ := hPG.shape
    have hKG : OwnK2 wX w3 (.agg #[.slice aoG L.length kG, .int .i64 N, .slice apG M.length jG]) L N M := ⟨_, _, rfl, hOG, hPG, hdG⟩
    obtain ⟨wY, hwY⟩ : ∃ wY, wY = w3.alloc (.cells #[.slice aoG L.length kG, .int .i64 N, .slice apG M.length jG] 33) := ⟨_, rfl⟩
    have h3Y : Ext w3 wY := by rw [hwY]; exact (Ext.refl _).alloc _
    have hsY : w3.heap.size + 1 ≤ wY.heap.size := by rw [hwY]; simp [go_sem]
    have BG : Blk wY w3.heap.size 33 #[.slice aoG L.length kG, .int .i64 N, .slice apG M.length jG] := by rw [hwY]; exact Blk.new _ _ _
    have hTY := hE2.trans (h2X.trans (hE3.trans h3Y))
    have HwY := Lib.hid hwY
    have z0 := BG.cell (i := 0) rfl
    have z1 := BG.cell (i := 1) rfl
    have z2 := BG.cell (i := 2) rfl
    have y0 := (BS.ext hTY).cell (i := 0) rfl
    have y1 := (BS.ext hTY).cell (i := 1) rfl
    have y2 := (BS.ext hTY).cell (i := 2) rfl
    rw [hwY] at z0 z1 z2 y0 y1 y2
    clear hwY hOG hPG hdG
    go_wp2_with fail
    rw [← HwY.out]
    refine (eqKept_any _ _ _ _ _ _ _ _ _ (hKG.ext h3Y).isK ⟨_, _, rfl, hIS.ext hTY, hJS.ext hTY⟩).mono ?_
    rintro e w4 ⟨rfl, hE4⟩
    clear z0 z1 z2 y0 y1 y2
    have hX4 := hE3.trans (h3Y.trans hE4)
    have kx := hx _ hX4
    have kb := hb _ (hEa.trans (hTY.trans hE4))
    go_wp2_with fail
    have hx' : ∀ W, Ext w4 W → W.cell? ⟨w2.heap.size, 0, none⟩ = some (.slice ao2 l.length c2) := fun W hW => hx _ (hX4.trans hW)
    have hb' : ∀ W, Ext w4 W → W.cell? ⟨w.heap.size, 0, none⟩ = some v := fun W hW => hb _ ((hEa.trans (hTY.trans hE4)).trans hW)
    have hD := (Ext.refl (w4)).drew
    first | (go_region_held3 (fun W => Ext (w4) W ∧ W.cell? ⟨w2.heap.size, 0, none⟩ = some (.slice ao2 l.length c2) ∧ W.cell? ⟨w.heap.size, 0, none⟩ = some v) (exact ⟨(by repeat (first | assumption | exact Ext.refl _ | (apply And.left; assumption) | apply Ext.drew | apply Ext.alloc)), hx' _ (by repeat (first | assumption | exact Ext.refl _ | (apply And.left; assumption) | apply Ext.drew | apply Ext.alloc)), hb' _ (by repeat (first | assumption | exact Ext.refl _ | (apply And.left; assumption) | apply Ext.drew | apply Ext.alloc))⟩) (first | (go_at_call 17; ((with_reducible refine Calls.mono (toGroup_any _ _ _ (hg _ ((hEa.trans (hTY.trans hE4)).trans (by repeat (first | assumption | exact Ext.refl _ | (apply And.left; assumption) | apply Ext.drew | apply Ext.alloc))))) ?_); rintro e wH0 ⟨v4, rfl, hO4, hX0⟩; have hH0 := Ext.trans (a := w4) (by repeat (first | assumption | exact Ext.refl _ | (apply And.left; assumption) | apply Ext.drew | apply Ext.alloc)) hX0)) | (go_at_call 19; ((with_reducible refine Calls.mono (eqGroup_any _ _ _ _ _ (hO2X.ints.ext (hX4.trans (by repeat (first | assumption | exact Ext.refl _ | (apply And.left; assumption) | apply Ext.drew | apply Ext.alloc)))) hO4.ints) ?_); rintro e wH1 ⟨rfl, hX1⟩; have hH1 := Ext.trans (a := w4) (by repeat (first | assumption | exact Ext.refl _ | (apply And.left; assumption) | apply Ext.drew | apply Ext.alloc)) hX1)))) | (fail "the region with calls")
    obtain ⟨w5, h45⟩ : ∃ w5, Ext w4 w5 ∧ w5 = wH1 := ⟨_, by repeat (first | assumption | exact Ext.refl _ | (apply And.left; assumption) | apply Ext.drew | apply Ext.alloc), rfl⟩
    obtain ⟨h45, rfl⟩ := h45
    have kx5 := hx' _ h45
    have hT5 := hTY.trans (hE4.trans h45)
    have hY5 := hE4.trans h45
    go_wp2_with fail
    refine (markGroup_any _ _ _ _ _ (hO2X.ext (hX4.trans h45)) (by omega) (by omega)).mono ?_
    rintro e w6 ⟨rfl, hO6, hG6⟩
    have b2 := hO2.blk
    have s2X := h2X.size
    have s3 := hE3.size
    have hKG6 := (hKG.ext (h3Y.trans hY5)).kept hG6 (fun k hk => by have := (b2 k hk).2; omega)
    have hT6 := hT5.grown hG6 (fun k hk => (b2 k hk).1)
    have BG6 := (BG.ext hY5).grown hG6 (fun k hk => by have := (b2 k hk).2; omega)
    have s6 : w3.heap.size + 1 ≤ w6.heap.size := by have := hY5.size; have := hG6.size; omega
    have z0 := BG6.cell (i := 0) rfl
    have z1 := BG6.cell (i := 1) rfl
    have z2 := BG6.cell (i := 2) rfl
    have y0 := (BS.ext hT6).cell (i := 0) rfl
    have y1 := (BS.ext hT6).cell (i := 1) rfl
    have y2 := (BS.ext hT6).cell (i := 2) rfl
    have hk0 : 0 ≤ 1 + (l.length : Int) := by omega
    clear hx hx' hb' kx kx5 kb hX4 hD hO6 hG6
    go_wp2_with fail
    refine (eqKept_any _ _ _ _ _ _ _ _ _ hKG6.isK ⟨_, _, rfl, hIS.ext hT6, hJS.ext hT6⟩).mono ?_
    rintro e w7 ⟨rfl, hE7⟩
    have BG7 := BG6.ext hE7
    clear z0 z1 z2 y0 y1 y2
    have z0 := BG7.cell (i := 0) rfl
    have z1 := BG7.cell (i := 1) rfl
    have z2 := BG7.cell (i := 2) rfl
    go_wp2_with fail
    refine (markKept_any _ _ _ _ _ _ _ _ (hKG6.ext hE7) hBl (by have := hE7.size; omega) (by omega) (by omega) (by omega)).mono ?_
    rintro e w8 ⟨rfl, hK8, hX8, -, hB8⟩
    have hT8 := hX8 wT (hT6.trans hE7) (by have := hE2.size; have := h2X.size; omega)
    have BG8 := hB8 _ _ _ (Nat.le_refl _) BG7
    clear z0 z1 z2 hX8 hB8
    have z0 := BG8.cell (i := 0) rfl
    have z1 := BG8.cell (i := 1) rfl
    have z2 := BG8.cell (i := 2) rfl
    have hlm : M.length ≤ 17592186044416 := by obtain ⟨_, _, _, _, hm, _⟩ := hKG; exact hm.2
    go_wp2_with fail
    refine (heldKept_any _ _ _ _ _ _ hK8.isK (by omega) (by omega) (by omega) hlm).mono ?_
    rintro e w9 ⟨rfl, hE9⟩
    clear z0 z1 z2
    have kb9 := hb _ (hEa.trans (hT8.trans hE9))
    go_wp2_with fail
    refine (toGroup_any _ _ _ (hg _ (hEa.trans (hT8.trans hE9)))).mono ?_
    rintro e wA ⟨vA, rfl, hOA, hEA⟩
    go_wp2_with fail
    refine (cI _ _ hOA.ints).mono ?_
    rintro e wB ⟨cH, rfl, hKH, hEB⟩
    obtain ⟨vH, uH, rfl, hOH, hPH, -⟩ := hKH
    obtain ⟨aoH, kH, rfl, -⟩ := hOH.shape
    obtain ⟨apH, jH, rfl, -⟩ := hPH.shape
    obtain ⟨wC, hwC⟩ : ∃ wC, wC = wB.alloc (.cells #[.slice aoH L.length kH, .int .i64 N, .slice apH M.length jH] 33) := ⟨_, rfl⟩
    have hBC : Ext wB wC := by rw [hwC]; exact (Ext.refl _).alloc _
    have BH : Blk wC wB.heap.size 33 #[.slice aoH L.length kH, .int .i64 N, .slice apH M.length jH] := by rw [hwC]; exact Blk.new _ _ _
    have h8C := hE9.trans (hEA.trans (hEB.trans hBC))
    have hTC := hT8.trans h8C
    have HwC := Lib.hid hwC
    have z0 := BH.cell (i := 0) rfl
    have z1 := BH.cell (i := 1) rfl
    have z2 := BH.cell (i := 2) rfl
    have y0 := (BS.ext hTC).cell (i := 0) rfl
    have y1 := (BS.ext hTC).cell (i := 1) rfl
    have y2 := (BS.ext hTC).cell (i := 2) rfl
    rw [hwC] at z0 z1 z2 y0 y1 y2
    clear hwC kb9
    go_wp2_with fail
    rw [← HwC.out]
    refine (eqKept_any _ _ _ _ _ _ _ _ _ ⟨_, _, rfl, hOH.ints.ext hBC, hPH.ints.ext hBC⟩ ⟨_, _, rfl, hIS.ext hTC, hJS.ext hTC⟩).mono ?_
    rintro e wD ⟨rfl, hED⟩
    clear z0 z1 z2 y0 y1 y2
    have BG9 := BG8.ext (h8C.trans hED)
    have z0 := BG9.cell (i := 0) rfl
    have z1 := BG9.cell (i := 1) rfl
    have z2 := BG9.cell (i := 2) rfl
    go_wp2_with fail
    refine (heldKept_any _ _ _ _ _ _ (hK8.isK.ext (h8C.trans hED)) (by omega) (by omega) (by omega) hlm).mono ?_
    rintro e wF ⟨rfl, hEF⟩
    go_wp2_with fail
    go_ret
    exact ⟨rfl, hE0.trans (hEa.trans (hTC.trans (hED.trans hEF)))⟩

namespace fnExactNewKept
theorem own : ownKnob Try.prog.godebug = none := by kernel_rfl
theorem laidOut : laidOutB Try.prog = true := by kernel_rfl
set_option maxRecDepth 100000 in
theorem lifted (os : Os) (started : os.Started) (H : Type) (enc : TypeId × Value → H) :
    ReturnsInHanded {} Try.checked os 4 .any (Rows.fnExactNewKeptSpec.pre6 enc Try.prog Try.f4 Rows.fnExactNewKeptRow.domain false) (Rows.fnExactNewKeptSpec.post enc Try.prog Try.f4 false true false false) := by
  refine returnsInHanded_of_change_sized (C := Try.checked) own started (by kernel_rfl) Try.func4
    (ChangeSpec.witness6 (enc := enc) (C := Try.checked) false ⟨#[], #[.agg #[.slice none 0 0], .int .i64 0], []⟩ 8 (by kernel_rfl) (by kernel_rfl) (by kernel_rfl) (by kernel_rfl)) ?_
  intro W base args ds gs before hval0 hW hcnd hsz0 _
  have hval : ∀ (j : Nat) t v, Try.f4.params[j]? = some t → args[j]? = some v → Value.okWide Try.prog W .any base t v := hval0
  have hsz : (DataW.weightsEach Try.prog (Try.f4.params.toList ++ Rows.fnExactNewKeptSpec.plain.varTypes Try.prog) (ds ++ gs)).all (· ≤ reachBytes) = true := hsz0
  have hW' := hW
  obtain ⟨p, q, hA0, hV, rfl, hfz, hnd⟩ := hW
  have hA : DataW.TrodAll enc Try.prog W 0 (fun _ => true) true Try.f4.params.toList args.toList ds p := hA0
  rw [Try.params4] at hA hval hsz
  obtain ⟨v0, vs0, d0, ds0, p0, q0, hargs, rfl, rfl, h0, r0⟩ := trodAll_cons hA
  obtain ⟨v1, vs1, d1, ds1, p1, q1, rfl, rfl, rfl, h1, r1⟩ := trodAll_cons r0
  obtain ⟨rfl, rfl, rfl⟩ := trodAll_nil r1
  obtain rfl : args = #[v0, v1] := by cases args; simp_all
  obtain ⟨rfl, rfl⟩ := trodVars_none hV
  have k0 := h0
  have lt0 : ∀ x ∈ p0, x.block < W.heap.size := by obtain ⟨m, hm⟩ := k0; exact DataW.trod_lt m _ _ _ hm
  have wt0 := weights_arg hsz (j := 0) (t := 24) (d := d0) rfl rfl
  obtain ⟨u0, l0, rfl, hI0⟩ := grp_arg Try.underlying24 (by kernel_rfl) rfl (by kernel_rfl) Try.underlying22 Try.underlying3 (by kernel_rfl) (by kernel_rfl) (hval 0 24 v0 rfl rfl) h0 wt0
  obtain ⟨a1, rfl, rfl, rfl, wa1⟩ := open_int Try.underlying3 (hval 1 3 v1 rfl rfl) h1
  refine (FnExactNewKept_walk hI0 a1 (wf_bounds wa1)).mono fun e W' ⟨he, bel⟩ => ?_
  subst he
  exact ⟨_, rfl, _, _, _, [], _, [], hW', trodAll_mk1 (shut_bool Try.underlying4 _), (trodAll_cons_mk (Below.trod laidOut (by kernel_rfl) (of_decide_eq_true (by kernel_rfl)) k0 bel lt0) (trodAll_cons_mk (shut_int Try.underlying3 wa1) trodAll_mk0)), rfl, bel.frame _, fun h => by cases h⟩
theorem over : Rows.fnExactNewKeptRow.holds Try.pinned (OpenSpec.ofChange Rows.fnExactNewKeptSpec) :=
  OpenClaim.holds_of_wide 4 Try.f4 rfl rfl rfl rfl rfl rfl rfl ⟨rfl, rfl, rfl, rfl, rfl⟩ rfl rfl rfl rfl rfl (by kernel_rfl) Try.func4 (by kernel_rfl)
    (of_decide_eq_true (by kernel_rfl)) (by unfold Func.isWrapper; first | (rw [if_pos (by decide +kernel)]; kernel_rfl) | (rw [if_neg (by decide +kernel)]; exact ⟨rfl, rfl⟩))
    (fun os started H enc _ => lifted os started H enc)
theorem proved : Rows.FnExactNewKeptSaid := over
end fnExactNewKept

end Go.Proofs.Ytopdmgfbpdcnlaa
