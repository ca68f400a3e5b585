/- The draws of the laws on sets of small doubling: boxes, progressions. -/
import Derived.Test.YtgkojfjbfmpaaaaGreatGr16
namespace Go.Zz
open Go.RowKit Go.Proofs
set_option maxHeartbeats 8000000
set_option maxRecDepth 20000


theorem l14Set_any (v : Value) (l : List Int) (w : World) (h : Byts w v l) :
    Calls Tryz.prog 39 #[v] w fun e w' => ∃ ao L c x0, e = .returned (.tuple #[.agg #[.slice ao (List.length L) c], .int .i64 x0]) ∧ Own 3 w w' (.slice ao (List.length L) c) L ∧ Ext w w' := by
  have hE0 := (Ext.refl w).alloc (.cells #[.slice none 0 0] 26)
  have hB0 := Blk.new w 26 #[.slice none 0 0]
  obtain ⟨wZ, hwZ⟩ : ∃ x, x = w.alloc (.cells #[.slice none 0 0] 26) := ⟨_, rfl⟩
  have hsZ : w.heap.size < wZ.heap.size := by rw [hwZ]; simp
  rw [← hwZ] at hE0 hB0
  have HwZ := Lib.hid hwZ
  clear hwZ
  go_enter Tryz.func39, Tryz.ntmps39
  go_wp2_with fail
  rw [← HwZ.out]
  refine (l1New_any _ _ w _ h hE0).mono ?_
  rintro e wA ⟨p, rfl, hC1, hE1, hpZ⟩
  have hp := hC1.lt
  have hR1 := hB0.ext hE1
  have hsA : w.heap.size < wA.heap.size := Nat.lt_of_lt_of_le hsZ hE1.size
  have npw : p ≠ w.heap.size := by omega
  clear hB0 hE1 hE0
  go_wp2_with fail
  refine (l14Draw_any _ _ _ (h.ext hC1.base)).mono ?_
  rintro e w2 ⟨ao, L, c, aP, P, cP, aQ, Q, cQ, rfl, hO, hIP, hIQ, hE2⟩
  have hR := hR1.ext hE2
  have hC := hC1.ext hE2
  have hF2 := hE2.drw p
  have hs2 := hF2.size
  have hpA : p < wA.heap.size := hp.2
  have hIP3 := hIP.ext ((Ext.refl w2).alloc (.cells #[.slice ao L.length c] 26))
  have hIQ3 := hIQ.ext ((Ext.refl w2).alloc (.cells #[.slice ao L.length c] 26))
  clear hR1 hC1
  have hG := Blk.new w2 26 #[.slice ao L.length c]
  replace hR := hR.alloc (.cells #[.slice ao L.length c] 26)
  replace hO := hO.alloc (.cells #[.slice ao L.length c] 26)
  replace hC := hC.alloc (.cells #[.slice ao L.length c] 26)
  have hF := hF2.alloc (.cells #[.slice ao L.length c] 26)
  obtain ⟨w3, hw3⟩ : ∃ x, x = w2.alloc (.cells #[.slice ao L.length c] 26) := ⟨_, rfl⟩
  have hs3 : w2.heap.size < w3.heap.size := by rw [hw3]; simp
  rw [← hw3] at hIP3 hIQ3 hG hR hO hC hF
  have Hw3 := Lib.hid hw3
  obtain ⟨g, hg⟩ : ∃ g, g = w2.heap.size := ⟨_, rfl⟩
  rw [← hg] at hG
  have Hg := Lib.hid hg
  have ngw : g ≠ w.heap.size := by omega
  have hgw : w.heap.size < g := by omega
  have npg : p ≠ g := by omega
  clear hw3 hg
  go_wp2_with fail
  rw [← Hw3.out, ← Hg.out]
  clear Hg Hw3
  refine (sBoxOf_ex _ _ _ L P Q _ hO.ints hIP3 hIQ3).mono ?_
  rintro e w4 ⟨a0, is, rfl, hE4⟩
  replace hR := hR.ext hE4
  replace hG := hG.ext hE4
  replace hO := hO.ext hE4
  replace hC := hC.ext hE4
  replace hF := hF.trans (Ext.drw hE4 p)
  clear hE4
  cases is
  · skip
    go_wp2_with fail
    go_upto_region 6 with fail
    have hCD := hC.ext ((Ext.refl w4).drew)
    have hOD := hO.drew
    have hGD := hG.drew
    have hRD := hR.drew
    have hFD := hF.trans (((Ext.refl w4).drew).drw p)
    have d0 := hGD.cell (i := 0) (v := .slice ao L.length c) rfl
    refine wp_region_held_drew (S := (fun W => Cur w W p ∧ W.cell? ⟨g, 0, none⟩ = some (.slice ao L.length c))) (by kernel_rfl) (by exact ⟨hCD, d0⟩) (fun hHeld => ?_)
    (refine takeOn (i := 0) (v := ?_) (by kernel_rfl) (by rfl) (by rfl) (by kernel_rfl) (by kernel_rfl) (by intro _ _ _ h; exact h) ?_ (by assumption) ?_); (rotate_left 1); (focus ((intro w hSw); (try dsimp only at hSw); go_simp; (try with_reducible rfl))); (try simp only [Act.put, List.setIfInBounds_toArray, List.set_cons_zero, List.set_cons_succ, List.getElem_toArray, List.getElem_cons_zero, List.getElem_cons_succ])
    (refine takeOn (i := 1) (v := ?_) (by kernel_rfl) (by rfl) (by rfl) (by kernel_rfl) (by kernel_rfl) (by intro _ _ _ h; exact h) ?_ (by assumption) ?_); (rotate_left 1); (focus ((intro w hSw); (try dsimp only at hSw); go_simp; (try with_reducible rfl))); (try simp only [Act.put, List.setIfInBounds_toArray, List.set_cons_zero, List.set_cons_succ, List.getElem_toArray, List.getElem_cons_zero, List.getElem_cons_succ])
    (refine takeOn (i := 2) (v := ?_) (by kernel_rfl) (by rfl) (by rfl) (by kernel_rfl) (by kernel_rfl) (by intro _ _ _ h; exact h) ?_ (by assumption) ?_); (rotate_left 1); (focus ((intro w hSw); (try dsimp only at hSw); go_simp; (try with_reducible rfl))); (try simp only [Act.put, List.setIfInBounds_toArray, List.set_cons_zero, List.set_cons_succ, List.getElem_toArray, List.getElem_cons_zero, List.getElem_cons_succ])
    refine takeOne (i := 3) (by kernel_rfl) (by rfl) (by rfl) (fun K hK => ?_)
    go_simp; (go_at_call 77; (with_reducible refine Calls.mono (l3Set_any w _ wA p _ _ hHeld.1 hOD hpA) ?_); rintro e w8 ⟨y, rfl, hy, hC8, hF7⟩; have hB8 := hF7.blk hGD (by omega); have hR8 := hF7.blk hRD (by omega); have hO8 := hF7.own hOD hpA; have hF8 := hFD.trans hF7; have r0 := hR8.cell (i := 0) (v := .slice none 0 0) rfl; have f0 := hR8.free 0; have e0 := hB8.cell (i := 0) (v := .slice ao L.length c) rfl; have hO9 := (Own.setCell_below hO8 (p := ⟨w.heap.size, 0, none⟩) (by show w.heap.size < _; omega) (.slice ao L.length c)).low (w0 := w) (by omega); have hC9 := hC8.other (b := w.heap.size) (i := 0) (by omega) (by omega) (.slice ao L.length c); have e1 := (hB8.other (p := ⟨w.heap.size, 0, none⟩) ngw (.slice ao L.length c)).cell (i := 0) (v := .slice ao L.length c) rfl; have q0 := (hR8.set 0 (.slice ao L.length c)).cell (i := 0) (v := .slice ao L.length c) rfl)
    refine hK.out _ _ (by first | exact ⟨hCD, d0⟩ | exact ⟨hC8, e0⟩ | exact ⟨hC9, e1⟩) (fun hHeld => ?_)
    clear hK K
    (try simp only [Act.put, List.setIfInBounds_toArray, List.set_cons_zero, List.set_cons_succ, List.getElem_toArray, List.getElem_cons_zero, List.getElem_cons_succ])
    refine takeOne (i := 4) (by kernel_rfl) (by rfl) (by rfl) (fun K hK => ?_)
    go_simp
    refine hK.out _ _ (by first | exact ⟨hCD, d0⟩ | exact ⟨hC8, e0⟩ | exact ⟨hC9, e1⟩) (fun hHeld => ?_)
    clear hK K
    (try simp only [Act.put, List.setIfInBounds_toArray, List.set_cons_zero, List.set_cons_succ, List.getElem_toArray, List.getElem_cons_zero, List.getElem_cons_succ])
    (refine takeOn (i := 5) (v := ?_) (by kernel_rfl) (by rfl) (by rfl) (by kernel_rfl) (by kernel_rfl) (by intro _ _ _ h; exact h) ?_ (by assumption) ?_); (rotate_left 1); (focus ((intro w hSw); (try dsimp only at hSw); go_simp; (try with_reducible rfl))); (try simp only [Act.put, List.setIfInBounds_toArray, List.set_cons_zero, List.set_cons_succ, List.getElem_toArray, List.getElem_cons_zero, List.getElem_cons_succ])
    refine wpAnyH_done (by kernel_rfl) ?_ _
    go_wp2_with fail
    clear r0 f0 e0 e1
    generalize w8.setCell ⟨w.heap.size, 0, none⟩ (.slice ao L.length c) = w9 at hO9 hC9 q0 ⊢
    exact bodyPost_ret (v := .tuple #[.agg #[.slice ao L.length c], .int .i64 y]) (by simp [results, Tryz.results39, go_sem, q0]) rfl ⟨_, L, _, y, rfl, hO9, hC9.base⟩
  · go_wp2_with fail
    refine (l1Once_any w _ p 3 (by omega) hC).mono ?_
    rintro e w5 ⟨bb, rfl, hC5, hF5⟩
    replace hR := hF5.blk hR (by omega)
    replace hG := hF5.blk hG (by omega)
    replace hO := hF5.own hO hpA
    replace hC := hC5
    replace hF := hF.trans hF5
    clear hC5 hF5
    cases bb
    rotate_left
    · skip
      go_wp2_with fail
      go_upto_region 6 with fail
      have hCD := hC.ext ((Ext.refl w5).drew)
      have hOD := hO.drew
      have hGD := hG.drew
      have hRD := hR.drew
      have hFD := hF.trans (((Ext.refl w5).drew).drw p)
      have d0 := hGD.cell (i := 0) (v := .slice ao L.length c) rfl
      refine wp_region_held_drew (S := (fun W => Cur w W p ∧ W.cell? ⟨g, 0, none⟩ = some (.slice ao L.length c))) (by kernel_rfl) (by exact ⟨hCD, d0⟩) (fun hHeld => ?_)
      (refine takeOn (i := 0) (v := ?_) (by kernel_rfl) (by rfl) (by rfl) (by kernel_rfl) (by kernel_rfl) (by intro _ _ _ h; exact h) ?_ (by assumption) ?_); (rotate_left 1); (focus ((intro w hSw); (try dsimp only at hSw); go_simp; (try with_reducible rfl))); (try simp only [Act.put, List.setIfInBounds_toArray, List.set_cons_zero, List.set_cons_succ, List.getElem_toArray, List.getElem_cons_zero, List.getElem_cons_succ])
      (refine takeOn (i := 1) (v := ?_) (by kernel_rfl) (by rfl) (by rfl) (by kernel_rfl) (by kernel_rfl) (by intro _ _ _ h; exact h) ?_ (by assumption) ?_); (rotate_left 1); (focus ((intro w hSw); (try dsimp only at hSw); go_simp; (try with_reducible rfl))); (try simp only [Act.put, List.setIfInBounds_toArray, List.set_cons_zero, List.set_cons_succ, List.getElem_toArray, List.getElem_cons_zero, List.getElem_cons_succ])
      (refine takeOn (i := 2) (v := ?_) (by kernel_rfl) (by rfl) (by rfl) (by kernel_rfl) (by kernel_rfl) (by intro _ _ _ h; exact h) ?_ (by assumption) ?_); (rotate_left 1); (focus ((intro w hSw); (try dsimp only at hSw); go_simp; (try with_reducible rfl))); (try simp only [Act.put, List.setIfInBounds_toArray, List.set_cons_zero, List.set_cons_succ, List.getElem_toArray, List.getElem_cons_zero, List.getElem_cons_succ])
      refine takeOne (i := 3) (by kernel_rfl) (by rfl) (by rfl) (fun K hK => ?_)
      go_simp; (go_at_call 77; (with_reducible refine Calls.mono (l3Set_any w _ wA p _ _ hHeld.1 hOD hpA) ?_); rintro e w8 ⟨y, rfl, hy, hC8, hF7⟩; have hB8 := hF7.blk hGD (by omega); have hR8 := hF7.blk hRD (by omega); have hO8 := hF7.own hOD hpA; have hF8 := hFD.trans hF7; have r0 := hR8.cell (i := 0) (v := .slice none 0 0) rfl; have f0 := hR8.free 0; have e0 := hB8.cell (i := 0) (v := .slice ao L.length c) rfl; have hO9 := (Own.setCell_below hO8 (p := ⟨w.heap.size, 0, none⟩) (by show w.heap.size < _; omega) (.slice ao L.length c)).low (w0 := w) (by omega); have hC9 := hC8.other (b := w.heap.size) (i := 0) (by omega) (by omega) (.slice ao L.length c); have e1 := (hB8.other (p := ⟨w.heap.size, 0, none⟩) ngw (.slice ao L.length c)).cell (i := 0) (v := .slice ao L.length c) rfl; have q0 := (hR8.set 0 (.slice ao L.length c)).cell (i := 0) (v := .slice ao L.length c) rfl)
      refine hK.out _ _ (by first | exact ⟨hCD, d0⟩ | exact ⟨hC8, e0⟩ | exact ⟨hC9, e1⟩) (fun hHeld => ?_)
      clear hK K
      (try simp only [Act.put, List.setIfInBounds_toArray, List.set_cons_zero, List.set_cons_succ, List.getElem_toArray, List.getElem_cons_zero, List.getElem_cons_succ])
      refine takeOne (i := 4) (by kernel_rfl) (by rfl) (by rfl) (fun K hK => ?_)
      go_simp
      refine hK.out _ _ (by first | exact ⟨hCD, d0⟩ | exact ⟨hC8, e0⟩ | exact ⟨hC9, e1⟩) (fun hHeld => ?_)
      clear hK K
      (try simp only [Act.put, List.setIfInBounds_toArray, List.set_cons_zero, List.set_cons_succ, List.getElem_toArray, List.getElem_cons_zero, List.getElem_cons_succ])
      (refine takeOn (i := 5) (v := ?_) (by kernel_rfl) (by rfl) (by rfl) (by kernel_rfl) (by kernel_rfl) (by intro _ _ _ h; exact h) ?_ (by assumption) ?_); (rotate_left 1); (focus ((intro w hSw); (try dsimp only at hSw); go_simp; (try with_reducible rfl))); (try simp only [Act.put, List.setIfInBounds_toArray, List.set_cons_zero, List.set_cons_succ, List.getElem_toArray, List.getElem_cons_zero, List.getElem_cons_succ])
      refine wpAnyH_done (by kernel_rfl) ?_ _
      go_wp2_with fail
      clear r0 f0 e0 e1
      generalize w8.setCell ⟨w.heap.size, 0, none⟩ (.slice ao L.length c) = w9 at hO9 hC9 q0 ⊢
      exact bodyPost_ret (v := .tuple #[.agg #[.slice ao L.length c], .int .i64 y]) (by simp [results, Tryz.results39, go_sem, q0]) rfl ⟨_, L, _, y, rfl, hO9, hC9.base⟩
    · have hob := ordF_bd L
      have cO := fun W (hW : Ints W (.slice ao L.length c) L) => sOrderOf_any (.slice ao L.length c) L W hW
      obtain ⟨N, hN⟩ : ∃ N, N = ordF L := ⟨_, rfl⟩
      rw [← hN] at hob cO
      clear hN
      by_cases h1n : 1 < N
      · skip
        go_wp2_with fail
        go_upto_region 5 with fail
        have hCD := hC.ext ((Ext.refl w5).drew)
        have hOD := hO.drew
        have hGD := hG.drew
        have hRD := hR.drew
        have hFD := hF.trans (((Ext.refl w5).drew).drw p)
        have d0 := hGD.cell (i := 0) (v := .slice ao L.length c) rfl
        refine wp_region_held_drew (S := (fun W => Cur w W p ∧ W.cell? ⟨g, 0, none⟩ = some (.slice ao L.length c))) (by kernel_rfl) (by exact ⟨hCD, d0⟩) (fun hHeld => ?_)
        (refine takeOn (i := 0) (v := ?_) (by kernel_rfl) (by rfl) (by rfl) (by kernel_rfl) (by kernel_rfl) (by intro _ _ _ h; exact h) ?_ (by assumption) ?_); (rotate_left 1); (focus ((intro w hSw); (try dsimp only at hSw); go_simp; (try with_reducible rfl))); (try simp only [Act.put, List.setIfInBounds_toArray, List.set_cons_zero, List.set_cons_succ, List.getElem_toArray, List.getElem_cons_zero, List.getElem_cons_succ])
        (refine takeOn (i := 1) (v := ?_) (by kernel_rfl) (by rfl) (by rfl) (by kernel_rfl) (by kernel_rfl) (by intro _ _ _ h; exact h) ?_ (by assumption) ?_); (rotate_left 1); (focus ((intro w hSw); (try dsimp only at hSw); go_simp; (try with_reducible rfl))); (try simp only [Act.put, List.setIfInBounds_toArray, List.set_cons_zero, List.set_cons_succ, List.getElem_toArray, List.getElem_cons_zero, List.getElem_cons_succ])
        (refine takeOn (i := 2) (v := ?_) (by kernel_rfl) (by rfl) (by rfl) (by kernel_rfl) (by kernel_rfl) (by intro _ _ _ h; exact h) ?_ (by assumption) ?_); (rotate_left 1); (focus ((intro w hSw); (try dsimp only at hSw); go_simp; (try with_reducible rfl))); (try simp only [Act.put, List.setIfInBounds_toArray, List.set_cons_zero, List.set_cons_succ, List.getElem_toArray, List.getElem_cons_zero, List.getElem_cons_succ])
        (refine takeOn (i := 3) (v := ?_) (by kernel_rfl) (by rfl) (by rfl) (by kernel_rfl) (by kernel_rfl) (by intro _ _ _ h; exact h) ?_ (by assumption) ?_); (rotate_left 1); (focus ((intro w hSw); (try dsimp only at hSw); go_simp; (try with_reducible rfl))); (try simp only [Act.put, List.setIfInBounds_toArray, List.set_cons_zero, List.set_cons_succ, List.getElem_toArray, List.getElem_cons_zero, List.getElem_cons_succ])
        (refine takeOn (i := 4) (v := ?_) (by kernel_rfl) (by rfl) (by rfl) (by kernel_rfl) (by kernel_rfl) (by intro _ _ _ h; exact h) ?_ (by assumption) ?_); (rotate_left 1); (focus ((intro w hSw); (try dsimp only at hSw); go_simp; (try with_reducible rfl))); (try simp only [Act.put, List.setIfInBounds_toArray, List.set_cons_zero, List.set_cons_succ, List.getElem_toArray, List.getElem_cons_zero, List.getElem_cons_succ])
        refine takeOne (i := 5) (by kernel_rfl) (by rfl) (by rfl) (fun K hK => ?_)
        go_simp; (go_at_call 76; (with_reducible refine Calls.mono (cO _ hOD.ints) ?_); rintro e w6 ⟨rfl, hX6⟩; have hC6 := hCD.ext hX6; have hG6 := hGD.ext hX6; have hR6 := hRD.ext hX6; have hO6 := hOD.ext hX6; have hF6 := hFD.trans (Ext.drw hX6 p); have d6 := hG6.cell (i := 0) (v := .slice ao L.length c) rfl)
        refine hK.out _ _ (by first | exact ⟨hCD, d0⟩ | exact ⟨hC6, d6⟩ | exact ⟨hC7, d7⟩ | exact ⟨hC8, e0⟩ | exact ⟨hC9, e1⟩) (fun hHeld => ?_)
        clear hK K
        (try simp only [Act.put, List.setIfInBounds_toArray, List.set_cons_zero, List.set_cons_succ, List.getElem_toArray, List.getElem_cons_zero, List.getElem_cons_succ])
        (refine takeOn (i := 6) (v := ?_) (by kernel_rfl) (by rfl) (by rfl) (by kernel_rfl) (by kernel_rfl) (by intro _ _ _ h; exact h) ?_ (by assumption) ?_); (rotate_left 1); (focus ((intro w hSw); (try dsimp only at hSw); go_simp; (try with_reducible rfl))); (try simp only [Act.put, List.setIfInBounds_toArray, List.set_cons_zero, List.set_cons_succ, List.getElem_toArray, List.getElem_cons_zero, List.getElem_cons_succ])
        refine takeOne (i := 7) (by kernel_rfl) (by rfl) (by rfl) (fun K hK => ?_)
        go_simp; (go_at_call 72; (with_reducible refine Calls.mono (l1Below_all w _ p _ (by omega) hC6) ?_); rintro e w7 ⟨y, rfl, hy, hC7, hF7⟩; have hG7 := hF7.blk hG6 (by omega); have hR7 := hF7.blk hR6 (by omega); have hO7 := hF7.own hO6 hpA; have hF7' := hF6.trans hF7; have d7 := hG7.cell (i := 0) (v := .slice ao L.length c) rfl)
        refine hK.out _ _ (by first | exact ⟨hCD, d0⟩ | exact ⟨hC6, d6⟩ | exact ⟨hC7, d7⟩ | exact ⟨hC8, e0⟩ | exact ⟨hC9, e1⟩) (fun hHeld => ?_)
        clear hK K
        (try simp only [Act.put, List.setIfInBounds_toArray, List.set_cons_zero, List.set_cons_succ, List.getElem_toArray, List.getElem_cons_zero, List.getElem_cons_succ])
        refine takeOne (i := 8) (by kernel_rfl) (by rfl) (by rfl) (fun K hK => ?_)
        go_simp; (go_at_call 75; (with_reducible refine Calls.mono (sShiftSet_ex _ L _ _ _ hO7.ints) ?_); rintro e w8 ⟨z, rfl, hX⟩; have hB8 := hG7.ext hX; have hR8 := hR7.ext hX; have hO8 := hO7.ext hX; have hC8 := hC7.ext hX; have hF8 := hF7'.trans (Ext.drw hX p); have r0 := hR8.cell (i := 0) (v := .slice none 0 0) rfl; have f0 := hR8.free 0; have e0 := hB8.cell (i := 0) (v := .slice ao L.length c) rfl; have hO9 := (Own.setCell_below hO8 (p := ⟨w.heap.size, 0, none⟩) (by show w.heap.size < _; omega) (.slice ao L.length c)).low (w0 := w) (by omega); have hC9 := hC8.other (b := w.heap.size) (i := 0) (by omega) (by omega) (.slice ao L.length c); have e1 := (hB8.other (p := ⟨w.heap.size, 0, none⟩) ngw (.slice ao L.length c)).cell (i := 0) (v := .slice ao L.length c) rfl; have q0 := (hR8.set 0 (.slice ao L.length c)).cell (i := 0) (v := .slice ao L.length c) rfl)
        refine hK.out _ _ (by first | exact ⟨hCD, d0⟩ | exact ⟨hC6, d6⟩ | exact ⟨hC7, d7⟩ | exact ⟨hC8, e0⟩ | exact ⟨hC9, e1⟩) (fun hHeld => ?_)
        clear hK K
        (try simp only [Act.put, List.setIfInBounds_toArray, List.set_cons_zero, List.set_cons_succ, List.getElem_toArray, List.getElem_cons_zero, List.getElem_cons_succ])
        refine takeOne (i := 9) (by kernel_rfl) (by rfl) (by rfl) (fun K hK => ?_)
        go_simp
        refine hK.out _ _ (by first | exact ⟨hCD, d0⟩ | exact ⟨hC6, d6⟩ | exact ⟨hC7, d7⟩ | exact ⟨hC8, e0⟩ | exact ⟨hC9, e1⟩) (fun hHeld => ?_)
        clear hK K
        (try simp only [Act.put, List.setIfInBounds_toArray, List.set_cons_zero, List.set_cons_succ, List.getElem_toArray, List.getElem_cons_zero, List.getElem_cons_succ])
        (refine takeOn (i := 10) (v := ?_) (by kernel_rfl) (by rfl) (by rfl) (by kernel_rfl) (by kernel_rfl) (by intro _ _ _ h; exact h) ?_ (by assumption) ?_); (rotate_left 1); (focus ((intro w hSw); (try dsimp only at hSw); go_simp; (try with_reducible rfl))); (try simp only [Act.put, List.setIfInBounds_toArray, List.set_cons_zero, List.set_cons_succ, List.getElem_toArray, List.getElem_cons_zero, List.getElem_cons_succ])
        refine wpAnyH_done (by kernel_rfl) ?_ _
        go_wp2_with fail
        clear r0 f0 e0 e1
        generalize w8.setCell ⟨w.heap.size, 0, none⟩ (.slice ao L.length c) = w9 at hO9 hC9 q0 ⊢
        exact bodyPost_ret (v := .tuple #[.agg #[.slice ao L.length c], .int .i64 z]) (by simp [results, Tryz.results39, go_sem, q0]) rfl ⟨_, L, _, z, rfl, hO9, hC9.base⟩
      · skip
        go_wp2_with fail
        go_upto_region 5 with fail
        have hCD := hC.ext ((Ext.refl w5).drew)
        have hOD := hO.drew
        have hGD := hG.drew
        have hRD := hR.drew
        have hFD := hF.trans (((Ext.refl w5).drew).drw p)
        have d0 := hGD.cell (i := 0) (v := .slice ao L.length c) rfl
        refine wp_region_held_drew (S := (fun W => Cur w W p ∧ W.cell? ⟨g, 0, none⟩ = some (.slice ao L.length c))) (by kernel_rfl) (by exact ⟨hCD, d0⟩) (fun hHeld => ?_)
        (refine takeOn (i := 0) (v := ?_) (by kernel_rfl) (by rfl) (by rfl) (by kernel_rfl) (by kernel_rfl) (by intro _ _ _ h; exact h) ?_ (by assumption) ?_); (rotate_left 1); (focus ((intro w hSw); (try dsimp only at hSw); go_simp; (try with_reducible rfl))); (try simp only [Act.put, List.setIfInBounds_toArray, List.set_cons_zero, List.set_cons_succ, List.getElem_toArray, List.getElem_cons_zero, List.getElem_cons_succ])
        (refine takeOn (i := 1) (v := ?_) (by kernel_rfl) (by rfl) (by rfl) (by kernel_rfl) (by kernel_rfl) (by intro _ _ _ h; exact h) ?_ (by assumption) ?_); (rotate_left 1); (focus ((intro w hSw); (try dsimp only at hSw); go_simp; (try with_reducible rfl))); (try simp only [Act.put, List.setIfInBounds_toArray, List.set_cons_zero, List.set_cons_succ, List.getElem_toArray, List.getElem_cons_zero, List.getElem_cons_succ])
        (refine takeOn (i := 2) (v := ?_) (by kernel_rfl) (by rfl) (by rfl) (by kernel_rfl) (by kernel_rfl) (by intro _ _ _ h; exact h) ?_ (by assumption) ?_); (rotate_left 1); (focus ((intro w hSw); (try dsimp only at hSw); go_simp; (try with_reducible rfl))); (try simp only [Act.put, List.setIfInBounds_toArray, List.set_cons_zero, List.set_cons_succ, List.getElem_toArray, List.getElem_cons_zero, List.getElem_cons_succ])
        (refine takeOn (i := 3) (v := ?_) (by kernel_rfl) (by rfl) (by rfl) (by kernel_rfl) (by kernel_rfl) (by intro _ _ _ h; exact h) ?_ (by assumption) ?_); (rotate_left 1); (focus ((intro w hSw); (try dsimp only at hSw); go_simp; (try with_reducible rfl))); (try simp only [Act.put, List.setIfInBounds_toArray, List.set_cons_zero, List.set_cons_succ, List.getElem_toArray, List.getElem_cons_zero, List.getElem_cons_succ])
        (refine takeOn (i := 4) (v := ?_) (by kernel_rfl) (by rfl) (by rfl) (by kernel_rfl) (by kernel_rfl) (by intro _ _ _ h; exact h) ?_ (by assumption) ?_); (rotate_left 1); (focus ((intro w hSw); (try dsimp only at hSw); go_simp; (try with_reducible rfl))); (try simp only [Act.put, List.setIfInBounds_toArray, List.set_cons_zero, List.set_cons_succ, List.getElem_toArray, List.getElem_cons_zero, List.getElem_cons_succ])
        refine takeOne (i := 5) (by kernel_rfl) (by rfl) (by rfl) (fun K hK => ?_)
        go_simp; (go_at_call 76; (with_reducible refine Calls.mono (cO _ hOD.ints) ?_); rintro e w6 ⟨rfl, hX6⟩; have hC6 := hCD.ext hX6; have hG6 := hGD.ext hX6; have hR6 := hRD.ext hX6; have hO6 := hOD.ext hX6; have hF6 := hFD.trans (Ext.drw hX6 p); have d6 := hG6.cell (i := 0) (v := .slice ao L.length c) rfl)
        refine hK.out _ _ (by first | exact ⟨hCD, d0⟩ | exact ⟨hC6, d6⟩ | exact ⟨hC7, d7⟩ | exact ⟨hC8, e0⟩ | exact ⟨hC9, e1⟩) (fun hHeld => ?_)
        clear hK K
        (try simp only [Act.put, List.setIfInBounds_toArray, List.set_cons_zero, List.set_cons_succ, List.getElem_toArray, List.getElem_cons_zero, List.getElem_cons_succ])
        (refine takeOn (i := 6) (v := ?_) (by kernel_rfl) (by rfl) (by rfl) (by kernel_rfl) (by kernel_rfl) (by intro _ _ _ h; exact h) ?_ (by assumption) ?_); (rotate_left 1); (focus ((intro w hSw); (try dsimp only at hSw); go_simp; (try with_reducible rfl))); (try simp only [Act.put, List.setIfInBounds_toArray, List.set_cons_zero, List.set_cons_succ, List.getElem_toArray, List.getElem_cons_zero, List.getElem_cons_succ])
        refine takeOne (i := 7) (by kernel_rfl) (by rfl) (by rfl) (fun K hK => ?_)
        go_simp; (go_at_call 72; (with_reducible refine Calls.mono (l1Below_all w _ p _ (by omega) hC6) ?_); rintro e w7 ⟨y, rfl, hy, hC7, hF7⟩; have hG7 := hF7.blk hG6 (by omega); have hR7 := hF7.blk hR6 (by omega); have hO7 := hF7.own hO6 hpA; have hF7' := hF6.trans hF7; have d7 := hG7.cell (i := 0) (v := .slice ao L.length c) rfl)
        refine hK.out _ _ (by first | exact ⟨hCD, d0⟩ | exact ⟨hC6, d6⟩ | exact ⟨hC7, d7⟩ | exact ⟨hC8, e0⟩ | exact ⟨hC9, e1⟩) (fun hHeld => ?_)
        clear hK K
        (try simp only [Act.put, List.setIfInBounds_toArray, List.set_cons_zero, List.set_cons_succ, List.getElem_toArray, List.getElem_cons_zero, List.getElem_cons_succ])
        refine takeOne (i := 8) (by kernel_rfl) (by rfl) (by rfl) (fun K hK => ?_)
        go_simp; (go_at_call 75; (with_reducible refine Calls.mono (sShiftSet_ex _ L _ _ _ hO7.ints) ?_); rintro e w8 ⟨z, rfl, hX⟩; have hB8 := hG7.ext hX; have hR8 := hR7.ext hX; have hO8 := hO7.ext hX; have hC8 := hC7.ext hX; have hF8 := hF7'.trans (Ext.drw hX p); have r0 := hR8.cell (i := 0) (v := .slice none 0 0) rfl; have f0 := hR8.free 0; have e0 := hB8.cell (i := 0) (v := .slice ao L.length c) rfl; have hO9 := (Own.setCell_below hO8 (p := ⟨w.heap.size, 0, none⟩) (by show w.heap.size < _; omega) (.slice ao L.length c)).low (w0 := w) (by omega); have hC9 := hC8.other (b := w.heap.size) (i := 0) (by omega) (by omega) (.slice ao L.length c); have e1 := (hB8.other (p := ⟨w.heap.size, 0, none⟩) ngw (.slice ao L.length c)).cell (i := 0) (v := .slice ao L.length c) rfl; have q0 := (hR8.set 0 (.slice ao L.length c)).cell (i := 0) (v := .slice ao L.length c) rfl)
        refine hK.out _ _ (by first | exact ⟨hCD, d0⟩ | exact ⟨hC6, d6⟩ | exact ⟨hC7, d7⟩ | exact ⟨hC8, e0⟩ | exact ⟨hC9, e1⟩) (fun hHeld => ?_)
        clear hK K
        (try simp only [Act.put, List.setIfInBounds_toArray, List.set_cons_zero, List.set_cons_succ, List.getElem_toArray, List.getElem_cons_zero, List.getElem_cons_succ])
        refine takeOne (i := 9) (by kernel_rfl) (by rfl) (by rfl) (fun K hK => ?_)
        go_simp
        refine hK.out _ _ (by first | exact ⟨hCD, d0⟩ | exact ⟨hC6, d6⟩ | exact ⟨hC7, d7⟩ | exact ⟨hC8, e0⟩ | exact ⟨hC9, e1⟩) (fun hHeld => ?_)
        clear hK K
        (try simp only [Act.put, List.setIfInBounds_toArray, List.set_cons_zero, List.set_cons_succ, List.getElem_toArray, List.getElem_cons_zero, List.getElem_cons_succ])
        (refine takeOn (i := 10) (v := ?_) (by kernel_rfl) (by rfl) (by rfl) (by kernel_rfl) (by kernel_rfl) (by intro _ _ _ h; exact h) ?_ (by assumption) ?_); (rotate_left 1); (focus ((intro w hSw); (try dsimp only at hSw); go_simp; (try with_reducible rfl))); (try simp only [Act.put, List.setIfInBounds_toArray, List.set_cons_zero, List.set_cons_succ, List.getElem_toArray, List.getElem_cons_zero, List.getElem_cons_succ])
        refine wpAnyH_done (by kernel_rfl) ?_ _
        go_wp2_with fail
        clear r0 f0 e0 e1
        generalize w8.setCell ⟨w.heap.size, 0, none⟩ (.slice ao L.length c) = w9 at hO9 hC9 q0 ⊢
        exact bodyPost_ret (v := .tuple #[.agg #[.slice ao L.length c], .int .i64 z]) (by simp [results, Tryz.results39, go_sem, q0]) rfl ⟨_, L, _, ⟨z, rfl⟩, hO9, hC9.base⟩
theorem DrawStructureOf_any (v : Value) (l : List Int) (w : World) (h : Byts w v l) :
    Calls Tryz.prog 13 #[v] w fun e w' => ∃ ao L c x0, e = .returned (.tuple #[.agg #[.slice ao (List.length L) c], .int .i64 x0]) ∧ Own 3 w w' (.slice ao (List.length L) c) L ∧ Ext w w' := by
  have hE0 := (Ext.refl w).alloc (.cells #[.slice none 0 0] 26)
  have hB0 := Blk.new w 26 #[.slice none 0 0]
  obtain ⟨wZ, hwZ⟩ : ∃ x, x = w.alloc (.cells #[.slice none 0 0] 26) := ⟨_, rfl⟩
  have hsZ : w.heap.size < wZ.heap.size := by rw [hwZ]; simp
  rw [← hwZ] at hE0 hB0
  have HwZ := Lib.hid hwZ
  clear hwZ
  go_enter Tryz.func13, Tryz.ntmps13
  go_wp2_with fail
  rw [← HwZ.out]
  refine (l1New_any _ _ w _ h hE0).mono ?_
  rintro e wA ⟨p, rfl, hC1, hE1, hpZ⟩
  have hp := hC1.lt
  have hR1 := hB0.ext hE1
  have hsA : w.heap.size < wA.heap.size := Nat.lt_of_lt_of_le hsZ hE1.size
  have npw : p ≠ w.heap.size := by omega
  clear hB0 hE1 hE0
  go_wp2_with fail
  refine (l1Once_any w _ p 3 (by omega) hC1).mono ?_
  rintro e w5 ⟨bb, rfl, hC5, hF5⟩
  have hR5 := hF5.blk hR1 (by omega)
  have hs5 := hF5.size
  have hsB : w.heap.size < w5.heap.size := by omega
  cases bb
  · go_wp2_with fail
    refine (l6Set_any w w5 p hC5).mono ?_
    rintro e w2 ⟨ao, L, c, x0, rfl, hO, hC, hF2⟩
    have hR := hF2.blk hR5 (by omega)
    have hE := hC.base
    have hR8 := hR.alloc (.cells #[.slice ao L.length c] 26)
    have r0 := hR8.cell (i := 0) (v := .slice none 0 0) rfl
    have f0 := hR8.free 0
    have e0 := (Blk.new w2 26 #[.slice ao L.length c]).cell (i := 0) (v := .slice ao L.length c) rfl
    have hO9 := (Own.setCell_below (hO.alloc (.cells #[.slice ao L.length c] 26)) (p := ⟨w.heap.size, 0, none⟩) (by show w.heap.size < _; omega) (.slice ao L.length c)).low (w0 := w) (by omega)
    have hE9 := (hE.alloc (.cells #[.slice ao L.length c] 26)).setCell (p := ⟨w.heap.size, 0, none⟩) (Nat.le_refl _) (.slice ao L.length c)
    have q0 := (hR8.set 0 (.slice ao L.length c)).cell (i := 0) (v := .slice ao L.length c) rfl
    go_wp2_with fail
    clear r0 f0 e0 hR8
    generalize (w2.alloc (.cells #[.slice ao L.length c] 26)).setCell ⟨w.heap.size, 0, none⟩ (.slice ao L.length c) = w9 at hO9 hE9 q0 ⊢
    exact bodyPost_ret (v := .tuple #[.agg #[.slice ao L.length c], .int .i64 x0]) (by simp [results, Tryz.results13, go_sem, q0]) rfl ⟨_, L, _, x0, rfl, hO9, hE9⟩
  · go_wp2_with fail
    refine (l14Set_any _ _ _ (h.ext hC5.base)).mono ?_
    rintro e w2 ⟨ao, L, c, x0, rfl, hO, hE2⟩
    have hR := hR5.ext hE2
    have hE := hC5.base.trans hE2
    have hR8 := hR.alloc (.cells #[.slice ao L.length c] 26)
    have r0 := hR8.cell (i := 0) (v := .slice none 0 0) rfl
    have f0 := hR8.free 0
    have e0 := (Blk.new w2 26 #[.slice ao L.length c]).cell (i := 0) (v := .slice ao L.length c) rfl
    have hO9 := (Own.setCell_below (hO.alloc (.cells #[.slice ao L.length c] 26)) (p := ⟨w.heap.size, 0, none⟩) (by show w.heap.size < _; omega) (.slice ao L.length c)).low (w0 := w) (by omega)
    have hE9 := (hE.alloc (.cells #[.slice ao L.length c] 26)).setCell (p := ⟨w.heap.size, 0, none⟩) (Nat.le_refl _) (.slice ao L.length c)
    have q0 := (hR8.set 0 (.slice ao L.length c)).cell (i := 0) (v := .slice ao L.length c) rfl
    go_wp2_with fail
    clear r0 f0 e0 hR8
    generalize (w2.alloc (.cells #[.slice ao L.length c] 26)).setCell ⟨w.heap.size, 0, none⟩ (.slice ao L.length c) = w9 at hO9 hE9 q0 ⊢
    exact bodyPost_ret (v := .tuple #[.agg #[.slice ao L.length c], .int .i64 x0]) (by simp [results, Tryz.results13, go_sem, q0]) rfl ⟨_, L, _, x0, rfl, hO9, hE9⟩
end Go.Zz
