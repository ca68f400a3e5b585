/- The draws of the laws on sets of small doubling: two sets. -/
import Derived.Test.YtgkojfjbfmpaaaaGreatGr17
namespace Go.Zz
open Go.RowKit Go.Proofs
set_option maxHeartbeats 8000000
set_option maxRecDepth 20000


theorem l10Prime_any (w0 w : World) (p : Nat) (h : Cur w0 w p) :
    Calls Tryz.prog 89 #[.pointer (some ⟨p, 0, none⟩)] w fun e w' => ∃ ao L c, e = .returned (.agg #[.slice ao (List.length L) c]) ∧ Own 3 w w' (.slice ao (List.length L) c) L ∧ Cur w0 w' p ∧ Drw p w w' := by
  have hp := h.lt
  have hB0 := Blk.new w 26 #[.slice none 0 0]
  obtain ⟨wA, hwA⟩ : ∃ x, x = w.alloc (.cells #[.slice none 0 0] 26) := ⟨_, rfl⟩
  have hC0 := h.alloc (.cells #[.slice none 0 0] 26)
  have hF0 := ((Ext.refl w).alloc (.cells #[.slice none 0 0] 26)).drw p
  have hsA : w.heap.size < wA.heap.size := by rw [hwA]; simp
  have hpA : p < wA.heap.size := by omega
  rw [← hwA] at hB0 hC0 hF0
  have HwA := Lib.hid hwA
  clear hwA
  go_enter Tryz.func89, Tryz.ntmps89
  go_wp2_with fail
  rw [← HwA.out]
  refine (l1Once_any w0 wA p 8 (by omega) hC0).mono ?_
  rintro e w2 ⟨bb, rfl, hC, hF2⟩
  have hR := hF2.blk hB0 (by omega)
  have hF := hF0.trans hF2
  have hs2 := hF2.size
  clear hB0 hC0 hF0 hF2
  cases bb
  rotate_left
  · go_wp2_with fail
    refine (l2Any_any w0 w2 p hC).mono ?_
    rintro e w3 ⟨ao, L, c, rfl, hO, hC3, hF3⟩
    have hR3 := hF3.blk hR (by omega)
    have hF4 := hF.trans hF3
    have r0 := hR3.cell (i := 0) (v := .slice none 0 0) rfl
    have f0 := hR3.free 0
    have q0 := (hR3.set 0 (.slice ao L.length c)).cell (i := 0) (v := .slice ao L.length c) rfl
    have hO9 := (Own.setCell_below hO (p := ⟨w.heap.size, 0, none⟩) (by show w.heap.size < _; omega) (.slice ao L.length c)).low (w0 := w) (by omega)
    have hC9 := hC3.other (b := w.heap.size) (i := 0) (by omega) (by omega) (.slice ao L.length c)
    have hF9 := hF4.set (b := w.heap.size) (Nat.le_refl _) 0 (.slice ao L.length c)
    go_wp2_with fail
    clear r0 f0
    generalize w3.setCell ⟨w.heap.size, 0, none⟩ (.slice ao L.length c) = w9 at hO9 hC9 hF9 q0 ⊢
    exact bodyPost_ret (v := .agg #[.slice ao L.length c]) (by simp [results, Tryz.results89, go_sem, q0]) rfl ⟨_, L, _, rfl, hO9, hC9, hF9⟩
  · have hOl : Own 3 w2 (w2.alloc (.cells #[.int .i64 2, .int .i64 3, .int .i64 5, .int .i64 7, .int .i64 11, .int .i64 13] 3)) (.slice (some ⟨w2.heap.size, 0, none⟩) 6 6) [2, 3, 5, 7, 11, 13] := own_made (TI := 3) (n := 6) (by omega) (Ext.refl w2) [2, 3, 5, 7, 11, 13] rfl
    go_wp2_with fail
    refine (l1PickInt_any w0 _ w2 p _ [2, 3, 5, 7, 11, 13] (hC.alloc _) hOl (by omega) (by decide) (by decide)).mono ?_
    rintro e w3 ⟨k, hk, rfl, hC3, hF3⟩
    have hBr := hF3.blk (hR.alloc _) (by omega)
    have hFr := Lib.hid ((hF.alloc _).trans hF3)
    obtain ⟨y, hy⟩ : ∃ y, y = nth [2, 3, 5, 7, 11, 13] k := ⟨_, rfl⟩
    rw [← hy]
    clear hy hOl hk hR hF hF3 hC
    have hCr := hC3
    clear hC3
    have hsw := hBr.lt
    have hBn := hBr.alloc (.cells #[.int .i64 y] 3)
    have kbn := hBn.cell (i := 0) (v := .slice none 0 0) rfl
    have fbn := hBn.free 0
    go_wp2_with fail
    clear kbn fbn hBn
    have hs5 : (w3.setCell ⟨w.heap.size, 0, none⟩ (.slice (some ⟨w3.heap.size, 0, none⟩) 1 1)).heap.size = w3.heap.size := by simp
    have hO5 := (own_made (TI := 3) (n := 1) (by omega) (Ext.refl (w3.setCell ⟨w.heap.size, 0, none⟩ (.slice (some ⟨w3.heap.size, 0, none⟩) 1 1))) [y] rfl).low (w0 := w) (by have := hBr.lt; omega)
    rw [hs5] at hO5
    have hC5 := (hCr.other (b := w.heap.size) (i := 0) (by omega) (by omega) (.slice (some ⟨w3.heap.size, 0, none⟩) 1 1)).alloc (.cells #[.int .i64 y] 3)
    have hF5 := (hFr.out.set (Nat.le_refl _) 0 (.slice (some ⟨w3.heap.size, 0, none⟩) 1 1)).alloc (.cells #[.int .i64 y] 3)
    have kres := ((hBr.set 0 (.slice (some ⟨w3.heap.size, 0, none⟩) 1 1)).alloc (.cells #[.int .i64 y] 3)).cell (i := 0) (v := .slice (some ⟨w3.heap.size, 0, none⟩) 1 1) rfl
    change Own _ _ (World.alloc _ (.cells #[.int .i64 y] _)) _ _ at hO5
    generalize (w3.setCell ⟨w.heap.size, 0, none⟩ (.slice (some ⟨w3.heap.size, 0, none⟩) 1 1)).alloc (.cells #[.int .i64 y] 3) = w5 at kres hO5 hC5 hF5 ⊢
    refine bodyPost_ret (v := .agg #[.slice (some ⟨w3.heap.size, 0, none⟩) 1 1]) (by simp [results, Tryz.results89, go_sem, kres]) rfl ⟨_, [y], _, rfl, hO5, hC5, hF5⟩
/-- what the drawn progressions leave -/
def P10 (w0 w wA wx : World) (p g : Nat) (V : Value) (L : List Int) (s8 s9 : Value) : Prop :=
  ∃ a b, s8 = .int .i64 a ∧ s9 = .int .i64 b ∧ Blk wx w.heap.size 26 #[.slice none 0 0] ∧ Blk wx g 26 #[V] ∧ Own 3 wA wx V L ∧ Cur w0 wx p ∧ Drw p w wx
theorem l10Set_any (w0 w : World) (p : Nat) (h : Cur w0 w p) :
    Calls Tryz.prog 54 #[.pointer (some ⟨p, 0, none⟩)] w fun e w' => ∃ ao L c x0 x1, e = .returned (.tuple #[.agg #[.slice ao (List.length L) c], .int .i64 x0, .int .i64 x1]) ∧ Own 3 w w' (.slice ao (List.length L) c) L ∧ Cur w0 w' p ∧ Drw p w w' := by
  have hp := h.lt
  have hB0 := Blk.new w 26 #[.slice none 0 0]
  obtain ⟨wA, hwA⟩ : ∃ x, x = w.alloc (.cells #[.slice none 0 0] 26) := ⟨_, rfl⟩
  have hC0 := h.alloc (.cells #[.slice none 0 0] 26)
  have hF0 := ((Ext.refl w).alloc (.cells #[.slice none 0 0] 26)).drw p
  have hsA : w.heap.size < wA.heap.size := by rw [hwA]; simp
  have hpA : p < wA.heap.size := by omega
  rw [← hwA] at hB0 hC0 hF0
  have HwA := Lib.hid hwA
  clear hwA
  go_enter Tryz.func54, Tryz.ntmps54
  go_wp2_with fail
  rw [← HwA.out]
  refine (l10Prime_any w0 wA p hC0).mono ?_
  rintro e w2 ⟨ao, L, c, rfl, hO, hC, hF2⟩
  have hR := hF2.blk hB0 (by omega)
  have hF := hF0.trans hF2
  have hs2 := hF2.size
  clear hB0 hC0 hF0 hF2
  have hG := Blk.new w2 26 #[.slice ao L.length c]
  replace hR := hR.alloc (.cells #[.slice ao L.length c] 26)
  replace hO := hO.alloc (.cells #[.slice ao L.length c] 26)
  replace hC := hC.alloc (.cells #[.slice ao L.length c] 26)
  replace hF := hF.alloc (.cells #[.slice ao L.length c] 26)
  obtain ⟨w3, hw3⟩ : ∃ x, x = w2.alloc (.cells #[.slice ao L.length c] 26) := ⟨_, rfl⟩
  have hs3 : w2.heap.size < w3.heap.size := by rw [hw3]; simp
  rw [← hw3] at hG hR hO hC hF
  have Hw3 := Lib.hid hw3
  obtain ⟨g, hg⟩ : ∃ g, g = w2.heap.size := ⟨_, rfl⟩
  rw [← hg] at hG
  have Hg := Lib.hid hg
  have ngw : g ≠ w.heap.size := by omega
  have hgw : w.heap.size < g := by omega
  have npg : p ≠ g := by omega
  clear hw3 hg
  go_wp2_with fail
  rw [← Hw3.out, ← Hg.out]
  clear Hg Hw3
  refine (sOrderOf_any _ L _ hO.ints).mono ?_
  rintro e w4 ⟨rfl, hE4⟩
  replace hR := hR.ext hE4
  replace hG := hG.ext hE4
  replace hO := hO.ext hE4
  replace hC := hC.ext hE4
  replace hF := hF.trans (Ext.drw hE4 p)
  clear hE4
  have hob := ordF_bd L
  obtain ⟨N, hN⟩ : ∃ N, N = ordF L := ⟨_, rfl⟩
  rw [← hN] at hob ⊢
  clear hN
  have hw : IntKind.i64.wrap (N + 1) = N + 1 := IntWalk.i64_in _ (by omega)
  have hw2 : IntKind.i64.wrap ((1 : Int) + 1) = 2 := by decide

  skip
  by_cases h1n : 1 < N
  · by_cases h5 : N + 1 < 6
    · have h5b : ¬ (6 : Int) < N + 1 := by omega
      have h5c : min (6 : Int) (N + 1) = N + 1 := by omega
      go_wp2_with fail
      refine (l1Below_all w0 _ p _ (by omega) hC).mono ?_
      rintro e w5 ⟨d, rfl, hd, hC5, hF5⟩
      replace hR := hF5.blk hR (by omega)
      replace hG := hF5.blk hG (by omega)
      replace hO := hF5.own hO hpA
      replace hC := hC5
      replace hF := hF.trans hF5
      clear hC5 hF5
      go_wp2_with fail
      go_upto_region 4 with fail
      have hCD := hC.ext ((Ext.refl w5).drew)
      have hOD := hO.drew
      have hGD := hG.drew
      have hRD := hR.drew
      have hFD := hF.trans (((Ext.refl w5).drew).drw p)
      have d0 := hGD.cell (i := 0) (v := .slice ao L.length c) rfl
      refine wp_region_held_drew (S := (fun W => Cur w0 W p ∧ W.cell? ⟨g, 0, none⟩ = some (.slice ao L.length c))) (by kernel_rfl) (by exact ⟨hCD, d0⟩) (fun hHeld => ?_)
      (refine takeOn (i := 0) (v := ?_) (by kernel_rfl) (by rfl) (by rfl) (by kernel_rfl) (by kernel_rfl) (by intro _ _ _ h; exact h) ?_ (by assumption) ?_); (rotate_left 1); (focus ((intro w hSw); (try dsimp only at hSw); go_simp; (try with_reducible rfl))); (try simp only [Act.put, List.setIfInBounds_toArray, List.set_cons_zero, List.set_cons_succ, List.getElem_toArray, List.getElem_cons_zero, List.getElem_cons_succ])
      (refine takeOn (i := 1) (v := ?_) (by kernel_rfl) (by rfl) (by rfl) (by kernel_rfl) (by kernel_rfl) (by intro _ _ _ h; exact h) ?_ (by assumption) ?_); (rotate_left 1); (focus ((intro w hSw); (try dsimp only at hSw); go_simp; (try with_reducible rfl))); (try simp only [Act.put, List.setIfInBounds_toArray, List.set_cons_zero, List.set_cons_succ, List.getElem_toArray, List.getElem_cons_zero, List.getElem_cons_succ])
      (refine takeOn (i := 2) (v := ?_) (by kernel_rfl) (by rfl) (by rfl) (by kernel_rfl) (by kernel_rfl) (by intro _ _ _ h; exact h) ?_ (by assumption) ?_); (rotate_left 1); (focus ((intro w hSw); (try dsimp only at hSw); go_simp; (try with_reducible rfl))); (try simp only [Act.put, List.setIfInBounds_toArray, List.set_cons_zero, List.set_cons_succ, List.getElem_toArray, List.getElem_cons_zero, List.getElem_cons_succ])
      (refine takeOn (i := 4) (v := ?_) (by kernel_rfl) (by rfl) (by rfl) (by kernel_rfl) (by kernel_rfl) (by intro _ _ _ h; exact h) ?_ (by assumption) ?_); (rotate_left 1); (focus ((intro w hSw); (try dsimp only at hSw); go_simp; (try with_reducible rfl))); (try simp only [Act.put, List.setIfInBounds_toArray, List.set_cons_zero, List.set_cons_succ, List.getElem_toArray, List.getElem_cons_zero, List.getElem_cons_succ])
      (refine takeOn (i := 5) (v := ?_) (by kernel_rfl) (by rfl) (by rfl) (by kernel_rfl) (by kernel_rfl) (by intro _ _ _ h; exact h) ?_ (by assumption) ?_); (rotate_left 1); (focus ((intro w hSw); (try dsimp only at hSw); go_simp; (try with_reducible rfl))); (try simp only [Act.put, List.setIfInBounds_toArray, List.set_cons_zero, List.set_cons_succ, List.getElem_toArray, List.getElem_cons_zero, List.getElem_cons_succ])
      (refine takeOn (i := 6) (v := ?_) (by kernel_rfl) (by rfl) (by rfl) (by kernel_rfl) (by kernel_rfl) (by intro _ _ _ h; exact h) ?_ (by assumption) ?_); (rotate_left 1); (focus ((intro w hSw); (try dsimp only at hSw); go_simp; (try with_reducible rfl))); (try simp only [Act.put, List.setIfInBounds_toArray, List.set_cons_zero, List.set_cons_succ, List.getElem_toArray, List.getElem_cons_zero, List.getElem_cons_succ])
      (refine takeOn (i := 7) (v := ?_) (by kernel_rfl) (by rfl) (by rfl) (by kernel_rfl) (by kernel_rfl) (by intro _ _ _ h; exact h) ?_ (by assumption) ?_); (rotate_left 1); (focus ((intro w hSw); (try dsimp only at hSw); go_simp; (first | done | with_reducible rfl | (rw [if_neg]; (try simp only [ByteArray.size_append, ByteArray.size_mk, List.size_toArray, List.length_cons, List.length_nil]); omega) | trace_state))); (try simp only [Act.put, List.setIfInBounds_toArray, List.set_cons_zero, List.set_cons_succ, List.getElem_toArray, List.getElem_cons_zero, List.getElem_cons_succ])
      (refine takeOn (i := 8) (v := ?_) (by kernel_rfl) (by rfl) (by rfl) (by kernel_rfl) (by kernel_rfl) (by intro _ _ _ h; exact h) ?_ (by assumption) ?_); (rotate_left 1); (focus ((intro w hSw); (try dsimp only at hSw); go_simp; (try with_reducible rfl))); (try simp only [Act.put, List.setIfInBounds_toArray, List.set_cons_zero, List.set_cons_succ, List.getElem_toArray, List.getElem_cons_zero, List.getElem_cons_succ])
      refine takeOne (i := 3) (by kernel_rfl) (by rfl) (by rfl) (fun K hK => ?_)
      go_simp; (go_at_call 72; (with_reducible refine Calls.mono (l1Below_all w0 _ p _ (by omega) hCD) ?_); rintro e wa1 ⟨y1, rfl, hy1, hC6, hF6⟩; have hG6 := hF6.blk hGD (by omega); have hR6 := hF6.blk hRD (by omega); have hO6 := hF6.own hOD hpA; have hF6' := hFD.trans hF6; have d6 := hG6.cell (i := 0) (v := .slice ao L.length c) rfl)
      refine hK.out _ _ (by first | exact ⟨hCD, d0⟩ | exact ⟨hC6, d6⟩ | exact ⟨hC7, d7⟩ | exact ⟨hC8, e0⟩) (fun hHeld => ?_)
      clear hK K
      (try simp only [Act.put, List.setIfInBounds_toArray, List.set_cons_zero, List.set_cons_succ, List.getElem_toArray, List.getElem_cons_zero, List.getElem_cons_succ])
      refine takeOne (i := 9) (by kernel_rfl) (by rfl) (by rfl) (fun K hK => ?_)
      go_simp; (go_at_call 72; (with_reducible refine Calls.mono (l1Below_all w0 _ p _ (by omega) hC6) ?_); rintro e wa2 ⟨y, rfl, hy, hC7, hF7⟩; have hG7 := hF7.blk hG6 (by omega); have hR7 := hF7.blk hR6 (by omega); have hO7 := hF7.own hO6 hpA; have hF7' := hF6'.trans hF7; have d7 := hG7.cell (i := 0) (v := .slice ao L.length c) rfl)
      refine hK.out _ _ (by first | exact ⟨hCD, d0⟩ | exact ⟨hC6, d6⟩ | exact ⟨hC7, d7⟩ | exact ⟨hC8, e0⟩) (fun hHeld => ?_)
      clear hK K
      (try simp only [Act.put, List.setIfInBounds_toArray, List.set_cons_zero, List.set_cons_succ, List.getElem_toArray, List.getElem_cons_zero, List.getElem_cons_succ])
      refine takeOne (i := 10) (by kernel_rfl) (by rfl) (by rfl) (fun K hK => ?_)
      go_simp; (go_at_call 90; (with_reducible refine Calls.mono (sProgressionSet_ex _ L _ _ _ _ hO7.ints) ?_); rintro e wa3 ⟨za, rfl, hX⟩; have hB8 := hG7.ext hX; have hR8 := hR7.ext hX; have hO8 := hO7.ext hX; have hC8 := hC7.ext hX; have hF8 := hF7'.trans (Ext.drw hX p); have e0 := hB8.cell (i := 0) (v := .slice ao L.length c) rfl)
      refine hK.out _ _ (by first | exact ⟨hCD, d0⟩ | exact ⟨hC6, d6⟩ | exact ⟨hC7, d7⟩ | exact ⟨hC8, e0⟩) (fun hHeld => ?_)
      clear hK K
      (try simp only [Act.put, List.setIfInBounds_toArray, List.set_cons_zero, List.set_cons_succ, List.getElem_toArray, List.getElem_cons_zero, List.getElem_cons_succ])
      (refine takeOn (i := 11) (v := ?_) (by kernel_rfl) (by rfl) (by rfl) (by kernel_rfl) (by kernel_rfl) (by intro _ _ _ h; exact h) ?_ (by assumption) ?_); (rotate_left 1); (focus ((intro w hSw); (try dsimp only at hSw); go_simp; (try with_reducible rfl))); (try simp only [Act.put, List.setIfInBounds_toArray, List.set_cons_zero, List.set_cons_succ, List.getElem_toArray, List.getElem_cons_zero, List.getElem_cons_succ])
      refine wpAnyH_done (by kernel_rfl) ?_ _
      skip
      clear hCD hGD hRD hOD hFD d0 hC6 hG6 hR6 hO6 hF6 hF6' d6 hC7 hG7 hR7 hO7 hF7 hF7' d7 hX e0 hy1 hy
      replace hR := hR8
      replace hG := hB8
      replace hO := hO8
      replace hC := hC8
      replace hF := hF8
      clear hR8 hB8 hO8 hC8 hF8
      go_wp2_with fail
      go_upto_region 5 with fail
      have hCD := hC.ext ((Ext.refl wa3).drew)
      have hOD := hO.drew
      have hGD := hG.drew
      have hRD := hR.drew
      have hFD := hF.trans (((Ext.refl wa3).drew).drw p)
      have d0 := hGD.cell (i := 0) (v := .slice ao L.length c) rfl
      refine wp_region_held_drew (S := (fun W => Cur w0 W p ∧ W.cell? ⟨g, 0, none⟩ = some (.slice ao L.length c))) (by kernel_rfl) (by exact ⟨hCD, d0⟩) (fun hHeld => ?_)
      (refine takeOn (i := 0) (v := ?_) (by kernel_rfl) (by rfl) (by rfl) (by kernel_rfl) (by kernel_rfl) (by intro _ _ _ h; exact h) ?_ (by assumption) ?_); (rotate_left 1); (focus ((intro w hSw); (try dsimp only at hSw); go_simp; (try with_reducible rfl))); (try simp only [Act.put, List.setIfInBounds_toArray, List.set_cons_zero, List.set_cons_succ, List.getElem_toArray, List.getElem_cons_zero, List.getElem_cons_succ])
      (refine takeOn (i := 1) (v := ?_) (by kernel_rfl) (by rfl) (by rfl) (by kernel_rfl) (by kernel_rfl) (by intro _ _ _ h; exact h) ?_ (by assumption) ?_); (rotate_left 1); (focus ((intro w hSw); (try dsimp only at hSw); go_simp; (try with_reducible rfl))); (try simp only [Act.put, List.setIfInBounds_toArray, List.set_cons_zero, List.set_cons_succ, List.getElem_toArray, List.getElem_cons_zero, List.getElem_cons_succ])
      (refine takeOn (i := 2) (v := ?_) (by kernel_rfl) (by rfl) (by rfl) (by kernel_rfl) (by kernel_rfl) (by intro _ _ _ h; exact h) ?_ (by assumption) ?_); (rotate_left 1); (focus ((intro w hSw); (try dsimp only at hSw); go_simp; (try with_reducible rfl))); (try simp only [Act.put, List.setIfInBounds_toArray, List.set_cons_zero, List.set_cons_succ, List.getElem_toArray, List.getElem_cons_zero, List.getElem_cons_succ])
      (refine takeOn (i := 4) (v := ?_) (by kernel_rfl) (by rfl) (by rfl) (by kernel_rfl) (by kernel_rfl) (by intro _ _ _ h; exact h) ?_ (by assumption) ?_); (rotate_left 1); (focus ((intro w hSw); (try dsimp only at hSw); go_simp; (try with_reducible rfl))); (try simp only [Act.put, List.setIfInBounds_toArray, List.set_cons_zero, List.set_cons_succ, List.getElem_toArray, List.getElem_cons_zero, List.getElem_cons_succ])
      (refine takeOn (i := 5) (v := ?_) (by kernel_rfl) (by rfl) (by rfl) (by kernel_rfl) (by kernel_rfl) (by intro _ _ _ h; exact h) ?_ (by assumption) ?_); (rotate_left 1); (focus ((intro w hSw); (try dsimp only at hSw); go_simp; (try with_reducible rfl))); (try simp only [Act.put, List.setIfInBounds_toArray, List.set_cons_zero, List.set_cons_succ, List.getElem_toArray, List.getElem_cons_zero, List.getElem_cons_succ])
      (refine takeOn (i := 6) (v := ?_) (by kernel_rfl) (by rfl) (by rfl) (by kernel_rfl) (by kernel_rfl) (by intro _ _ _ h; exact h) ?_ (by assumption) ?_); (rotate_left 1); (focus ((intro w hSw); (try dsimp only at hSw); go_simp; (try with_reducible rfl))); (try simp only [Act.put, List.setIfInBounds_toArray, List.set_cons_zero, List.set_cons_succ, List.getElem_toArray, List.getElem_cons_zero, List.getElem_cons_succ])
      (refine takeOn (i := 7) (v := ?_) (by kernel_rfl) (by rfl) (by rfl) (by kernel_rfl) (by kernel_rfl) (by intro _ _ _ h; exact h) ?_ (by assumption) ?_); (rotate_left 1); (focus ((intro w hSw); (try dsimp only at hSw); go_simp; (first | done | with_reducible rfl | (rw [if_neg]; (try simp only [ByteArray.size_append, ByteArray.size_mk, List.size_toArray, List.length_cons, List.length_nil]); omega) | trace_state))); (try simp only [Act.put, List.setIfInBounds_toArray, List.set_cons_zero, List.set_cons_succ, List.getElem_toArray, List.getElem_cons_zero, List.getElem_cons_succ])
      (refine takeOn (i := 8) (v := ?_) (by kernel_rfl) (by rfl) (by rfl) (by kernel_rfl) (by kernel_rfl) (by intro _ _ _ h; exact h) ?_ (by assumption) ?_); (rotate_left 1); (focus ((intro w hSw); (try dsimp only at hSw); go_simp; (try with_reducible rfl))); (try simp only [Act.put, List.setIfInBounds_toArray, List.set_cons_zero, List.set_cons_succ, List.getElem_toArray, List.getElem_cons_zero, List.getElem_cons_succ])
      refine takeOne (i := 3) (by kernel_rfl) (by rfl) (by rfl) (fun K hK => ?_)
      go_simp; (go_at_call 72; (with_reducible refine Calls.mono (l1Below_all w0 _ p _ (by omega) hCD) ?_); rintro e wb1 ⟨y1, rfl, hy1, hC6, hF6⟩; have hG6 := hF6.blk hGD (by omega); have hR6 := hF6.blk hRD (by omega); have hO6 := hF6.own hOD hpA; have hF6' := hFD.trans hF6; have d6 := hG6.cell (i := 0) (v := .slice ao L.length c) rfl)
      refine hK.out _ _ (by first | exact ⟨hCD, d0⟩ | exact ⟨hC6, d6⟩ | exact ⟨hC7, d7⟩ | exact ⟨hC8, e0⟩) (fun hHeld => ?_)
      clear hK K
      (try simp only [Act.put, List.setIfInBounds_toArray, List.set_cons_zero, List.set_cons_succ, List.getElem_toArray, List.getElem_cons_zero, List.getElem_cons_succ])
      refine takeOne (i := 9) (by kernel_rfl) (by rfl) (by rfl) (fun K hK => ?_)
      go_simp; (go_at_call 72; (with_reducible refine Calls.mono (l1Below_all w0 _ p _ (by omega) hC6) ?_); rintro e wb2 ⟨y, rfl, hy, hC7, hF7⟩; have hG7 := hF7.blk hG6 (by omega); have hR7 := hF7.blk hR6 (by omega); have hO7 := hF7.own hO6 hpA; have hF7' := hF6'.trans hF7; have d7 := hG7.cell (i := 0) (v := .slice ao L.length c) rfl)
      refine hK.out _ _ (by first | exact ⟨hCD, d0⟩ | exact ⟨hC6, d6⟩ | exact ⟨hC7, d7⟩ | exact ⟨hC8, e0⟩) (fun hHeld => ?_)
      clear hK K
      (try simp only [Act.put, List.setIfInBounds_toArray, List.set_cons_zero, List.set_cons_succ, List.getElem_toArray, List.getElem_cons_zero, List.getElem_cons_succ])
      refine takeOne (i := 10) (by kernel_rfl) (by rfl) (by rfl) (fun K hK => ?_)
      go_simp; (go_at_call 90; (with_reducible refine Calls.mono (sProgressionSet_ex _ L _ _ _ _ hO7.ints) ?_); rintro e wb3 ⟨zb, rfl, hX⟩; have hB8 := hG7.ext hX; have hR8 := hR7.ext hX; have hO8 := hO7.ext hX; have hC8 := hC7.ext hX; have hF8 := hF7'.trans (Ext.drw hX p); have e0 := hB8.cell (i := 0) (v := .slice ao L.length c) rfl)
      refine hK.out _ _ (by first | exact ⟨hCD, d0⟩ | exact ⟨hC6, d6⟩ | exact ⟨hC7, d7⟩ | exact ⟨hC8, e0⟩) (fun hHeld => ?_)
      clear hK K
      (try simp only [Act.put, List.setIfInBounds_toArray, List.set_cons_zero, List.set_cons_succ, List.getElem_toArray, List.getElem_cons_zero, List.getElem_cons_succ])
      (refine takeOn (i := 11) (v := ?_) (by kernel_rfl) (by rfl) (by rfl) (by kernel_rfl) (by kernel_rfl) (by intro _ _ _ h; exact h) ?_ (by assumption) ?_); (rotate_left 1); (focus ((intro w hSw); (try dsimp only at hSw); go_simp; (try with_reducible rfl))); (try simp only [Act.put, List.setIfInBounds_toArray, List.set_cons_zero, List.set_cons_succ, List.getElem_toArray, List.getElem_cons_zero, List.getElem_cons_succ])
      refine wpAnyH_done (by kernel_rfl) ?_ _
      skip
      clear hCD hGD hRD hOD hFD d0 hC6 hG6 hR6 hO6 hF6 hF6' d6 hC7 hG7 hR7 hO7 hF7 hF7' d7 hX e0 hy1 hy
      replace hR := hR8
      replace hG := hB8
      replace hO := hO8
      replace hC := hC8
      replace hF := hF8
      clear hR8 hB8 hO8 hC8 hF8
      obtain ⟨a, ha⟩ : ∃ a, a = za := ⟨_, rfl⟩
      obtain ⟨b, hb⟩ : ∃ b, b = zb := ⟨_, rfl⟩
      rw [← ha, ← hb]
      clear ha hb
      go_wp2_with fail
      refine (l1Once_any w0 _ p 3 (by omega) hC).mono ?_
      rintro e we1 ⟨b1, rfl, hC5, hF5⟩
      replace hR := hF5.blk hR (by omega)
      replace hG := hF5.blk hG (by omega)
      replace hO := hF5.own hO hpA
      replace hC := hC5
      replace hF := hF.trans hF5
      clear hC5 hF5
      cases b1
      · skip
        go_wp2_with fail
        refine (l1Once_any w0 _ p 3 (by omega) hC).mono ?_
        rintro e wf1 ⟨b2, rfl, hC5, hF5⟩
        replace hR := hF5.blk hR (by omega)
        replace hG := hF5.blk hG (by omega)
        replace hO := hF5.own hO hpA
        replace hC := hC5
        replace hF := hF.trans hF5
        clear hC5 hF5
        cases b2
        · skip
          have hR8 := hR
          have hB8 := hG
          have hO8 := hO
          have hC8 := hC
          have hF8 := hF
          have r0 := hR8.cell (i := 0) (v := .slice none 0 0) rfl; have f0 := hR8.free 0; have e0 := hB8.cell (i := 0) (v := .slice ao L.length c) rfl; have hO9 := (Own.setCell_below hO8 (p := ⟨w.heap.size, 0, none⟩) (by show w.heap.size < _; omega) (.slice ao L.length c)).low (w0 := w) (by omega); have hC9 := hC8.other (b := w.heap.size) (i := 0) (by omega) (by omega) (.slice ao L.length c); have hF9 := hF8.set (b := w.heap.size) (Nat.le_refl _) 0 (.slice ao L.length c); have e1 := (hB8.other (p := ⟨w.heap.size, 0, none⟩) ngw (.slice ao L.length c)).cell (i := 0) (v := .slice ao L.length c) rfl; have q0 := (hR8.set 0 (.slice ao L.length c)).cell (i := 0) (v := .slice ao L.length c) rfl
          go_wp2_with fail
          clear r0 f0 e0 e1
          generalize wf1.setCell ⟨w.heap.size, 0, none⟩ (.slice ao L.length c) = w9 at hO9 hC9 hF9 q0 ⊢
          exact bodyPost_ret (v := .tuple #[.agg #[.slice ao L.length c], .int .i64 a, .int .i64 b]) (by simp [results, Tryz.results54, go_sem, q0]) rfl ⟨_, L, _, a, b, rfl, hO9, hC9, hF9⟩
        · have l1 := hG.cell (i := 0) (v := .slice ao L.length c) rfl
          go_wp2_with fail
          refine (l3Set_any w0 _ wA p _ _ hC hO hpA).mono ?_
          rintro e wf2 ⟨t2, rfl, ht2, hC5, hF5⟩
          clear l1
          replace hR := hF5.blk hR (by omega)
          replace hG := hF5.blk hG (by omega)
          replace hO := hF5.own hO hpA
          replace hC := hC5
          replace hF := hF.trans hF5
          clear hC5 hF5
          have hR8 := hR
          have hB8 := hG
          have hO8 := hO
          have hC8 := hC
          have hF8 := hF
          have r0 := hR8.cell (i := 0) (v := .slice none 0 0) rfl; have f0 := hR8.free 0; have e0 := hB8.cell (i := 0) (v := .slice ao L.length c) rfl; have hO9 := (Own.setCell_below hO8 (p := ⟨w.heap.size, 0, none⟩) (by show w.heap.size < _; omega) (.slice ao L.length c)).low (w0 := w) (by omega); have hC9 := hC8.other (b := w.heap.size) (i := 0) (by omega) (by omega) (.slice ao L.length c); have hF9 := hF8.set (b := w.heap.size) (Nat.le_refl _) 0 (.slice ao L.length c); have e1 := (hB8.other (p := ⟨w.heap.size, 0, none⟩) ngw (.slice ao L.length c)).cell (i := 0) (v := .slice ao L.length c) rfl; have q0 := (hR8.set 0 (.slice ao L.length c)).cell (i := 0) (v := .slice ao L.length c) rfl
          go_wp2_with fail
          clear r0 f0 e0 e1
          generalize wf2.setCell ⟨w.heap.size, 0, none⟩ (.slice ao L.length c) = w9 at hO9 hC9 hF9 q0 ⊢
          exact bodyPost_ret (v := .tuple #[.agg #[.slice ao L.length c], .int .i64 a, .int .i64 t2]) (by simp [results, Tryz.results54, go_sem, q0]) rfl ⟨_, L, _, a, t2, rfl, hO9, hC9, hF9⟩
      · have l1 := hG.cell (i := 0) (v := .slice ao L.length c) rfl
        go_wp2_with fail
        refine (l3Set_any w0 _ wA p _ _ hC hO hpA).mono ?_
        rintro e we2 ⟨t1, rfl, ht1, hC5, hF5⟩
        clear l1
        replace hR := hF5.blk hR (by omega)
        replace hG := hF5.blk hG (by omega)
        replace hO := hF5.own hO hpA
        replace hC := hC5
        replace hF := hF.trans hF5
        clear hC5 hF5
        go_wp2_with fail
        refine (l1Once_any w0 _ p 3 (by omega) hC).mono ?_
        rintro e wf1 ⟨b2, rfl, hC5, hF5⟩
        replace hR := hF5.blk hR (by omega)
        replace hG := hF5.blk hG (by omega)
        replace hO := hF5.own hO hpA
        replace hC := hC5
        replace hF := hF.trans hF5
        clear hC5 hF5
        cases b2
        · skip
          have hR8 := hR
          have hB8 := hG
          have hO8 := hO
          have hC8 := hC
          have hF8 := hF
          have r0 := hR8.cell (i := 0) (v := .slice none 0 0) rfl; have f0 := hR8.free 0; have e0 := hB8.cell (i := 0) (v := .slice ao L.length c) rfl; have hO9 := (Own.setCell_below hO8 (p := ⟨w.heap.size, 0, none⟩) (by show w.heap.size < _; omega) (.slice ao L.length c)).low (w0 := w) (by omega); have hC9 := hC8.other (b := w.heap.size) (i := 0) (by omega) (by omega) (.slice ao L.length c); have hF9 := hF8.set (b := w.heap.size) (Nat.le_refl _) 0 (.slice ao L.length c); have e1 := (hB8.other (p := ⟨w.heap.size, 0, none⟩) ngw (.slice ao L.length c)).cell (i := 0) (v := .slice ao L.length c) rfl; have q0 := (hR8.set 0 (.slice ao L.length c)).cell (i := 0) (v := .slice ao L.length c) rfl
          go_wp2_with fail
          clear r0 f0 e0 e1
          generalize wf1.setCell ⟨w.heap.size, 0, none⟩ (.slice ao L.length c) = w9 at hO9 hC9 hF9 q0 ⊢
          exact bodyPost_ret (v := .tuple #[.agg #[.slice ao L.length c], .int .i64 t1, .int .i64 b]) (by simp [results, Tryz.results54, go_sem, q0]) rfl ⟨_, L, _, t1, b, rfl, hO9, hC9, hF9⟩
        · have l1 := hG.cell (i := 0) (v := .slice ao L.length c) rfl
          go_wp2_with fail
          refine (l3Set_any w0 _ wA p _ _ hC hO hpA).mono ?_
          rintro e wf2 ⟨t2, rfl, ht2, hC5, hF5⟩
          clear l1
          replace hR := hF5.blk hR (by omega)
          replace hG := hF5.blk hG (by omega)
          replace hO := hF5.own hO hpA
          replace hC := hC5
          replace hF := hF.trans hF5
          clear hC5 hF5
          have hR8 := hR
          have hB8 := hG
          have hO8 := hO
          have hC8 := hC
          have hF8 := hF
          have r0 := hR8.cell (i := 0) (v := .slice none 0 0) rfl; have f0 := hR8.free 0; have e0 := hB8.cell (i := 0) (v := .slice ao L.length c) rfl; have hO9 := (Own.setCell_below hO8 (p := ⟨w.heap.size, 0, none⟩) (by show w.heap.size < _; omega) (.slice ao L.length c)).low (w0 := w) (by omega); have hC9 := hC8.other (b := w.heap.size) (i := 0) (by omega) (by omega) (.slice ao L.length c); have hF9 := hF8.set (b := w.heap.size) (Nat.le_refl _) 0 (.slice ao L.length c); have e1 := (hB8.other (p := ⟨w.heap.size, 0, none⟩) ngw (.slice ao L.length c)).cell (i := 0) (v := .slice ao L.length c) rfl; have q0 := (hR8.set 0 (.slice ao L.length c)).cell (i := 0) (v := .slice ao L.length c) rfl
          go_wp2_with fail
          clear r0 f0 e0 e1
          generalize wf2.setCell ⟨w.heap.size, 0, none⟩ (.slice ao L.length c) = w9 at hO9 hC9 hF9 q0 ⊢
          exact bodyPost_ret (v := .tuple #[.agg #[.slice ao L.length c], .int .i64 t1, .int .i64 t2]) (by simp [results, Tryz.results54, go_sem, q0]) rfl ⟨_, L, _, t1, t2, rfl, hO9, hC9, hF9⟩
    · have h5b : ¬ N + 1 < (6 : Int) := h5
      have h5c : min (6 : Int) (N + 1) = 6 := by omega
      go_wp2_with fail
      refine (l1Below_all w0 _ p _ (by omega) hC).mono ?_
      rintro e w5 ⟨d, rfl, hd, hC5, hF5⟩
      replace hR := hF5.blk hR (by omega)
      replace hG := hF5.blk hG (by omega)
      replace hO := hF5.own hO hpA
      replace hC := hC5
      replace hF := hF.trans hF5
      clear hC5 hF5
      go_wp2_with fail
      go_upto_region 4 with fail
      have hCD := hC.ext ((Ext.refl w5).drew)
      have hOD := hO.drew
      have hGD := hG.drew
      have hRD := hR.drew
      have hFD := hF.trans (((Ext.refl w5).drew).drw p)
      have d0 := hGD.cell (i := 0) (v := .slice ao L.length c) rfl
      refine wp_region_held_drew (S := (fun W => Cur w0 W p ∧ W.cell? ⟨g, 0, none⟩ = some (.slice ao L.length c))) (by kernel_rfl) (by exact ⟨hCD, d0⟩) (fun hHeld => ?_)
      (refine takeOn (i := 0) (v := ?_) (by kernel_rfl) (by rfl) (by rfl) (by kernel_rfl) (by kernel_rfl) (by intro _ _ _ h; exact h) ?_ (by assumption) ?_); (rotate_left 1); (focus ((intro w hSw); (try dsimp only at hSw); go_simp; (try with_reducible rfl))); (try simp only [Act.put, List.setIfInBounds_toArray, List.set_cons_zero, List.set_cons_succ, List.getElem_toArray, List.getElem_cons_zero, List.getElem_cons_succ])
      (refine takeOn (i := 1) (v := ?_) (by kernel_rfl) (by rfl) (by rfl) (by kernel_rfl) (by kernel_rfl) (by intro _ _ _ h; exact h) ?_ (by assumption) ?_); (rotate_left 1); (focus ((intro w hSw); (try dsimp only at hSw); go_simp; (try with_reducible rfl))); (try simp only [Act.put, List.setIfInBounds_toArray, List.set_cons_zero, List.set_cons_succ, List.getElem_toArray, List.getElem_cons_zero, List.getElem_cons_succ])
      (refine takeOn (i := 2) (v := ?_) (by kernel_rfl) (by rfl) (by rfl) (by kernel_rfl) (by kernel_rfl) (by intro _ _ _ h; exact h) ?_ (by assumption) ?_); (rotate_left 1); (focus ((intro w hSw); (try dsimp only at hSw); go_simp; (try with_reducible rfl))); (try simp only [Act.put, List.setIfInBounds_toArray, List.set_cons_zero, List.set_cons_succ, List.getElem_toArray, List.getElem_cons_zero, List.getElem_cons_succ])
      (refine takeOn (i := 4) (v := ?_) (by kernel_rfl) (by rfl) (by rfl) (by kernel_rfl) (by kernel_rfl) (by intro _ _ _ h; exact h) ?_ (by assumption) ?_); (rotate_left 1); (focus ((intro w hSw); (try dsimp only at hSw); go_simp; (try with_reducible rfl))); (try simp only [Act.put, List.setIfInBounds_toArray, List.set_cons_zero, List.set_cons_succ, List.getElem_toArray, List.getElem_cons_zero, List.getElem_cons_succ])
      (refine takeOn (i := 5) (v := ?_) (by kernel_rfl) (by rfl) (by rfl) (by kernel_rfl) (by kernel_rfl) (by intro _ _ _ h; exact h) ?_ (by assumption) ?_); (rotate_left 1); (focus ((intro w hSw); (try dsimp only at hSw); go_simp; (try with_reducible rfl))); (try simp only [Act.put, List.setIfInBounds_toArray, List.set_cons_zero, List.set_cons_succ, List.getElem_toArray, List.getElem_cons_zero, List.getElem_cons_succ])
      (refine takeOn (i := 6) (v := ?_) (by kernel_rfl) (by rfl) (by rfl) (by kernel_rfl) (by kernel_rfl) (by intro _ _ _ h; exact h) ?_ (by assumption) ?_); (rotate_left 1); (focus ((intro w hSw); (try dsimp only at hSw); go_simp; (try with_reducible rfl))); (try simp only [Act.put, List.setIfInBounds_toArray, List.set_cons_zero, List.set_cons_succ, List.getElem_toArray, List.getElem_cons_zero, List.getElem_cons_succ])
      (refine takeOn (i := 7) (v := ?_) (by kernel_rfl) (by rfl) (by rfl) (by kernel_rfl) (by kernel_rfl) (by intro _ _ _ h; exact h) ?_ (by assumption) ?_); (rotate_left 1); (focus ((intro w hSw); (try dsimp only at hSw); go_simp; (first | done | with_reducible rfl | (rw [if_neg]; (try simp only [ByteArray.size_append, ByteArray.size_mk, List.size_toArray, List.length_cons, List.length_nil]); omega) | trace_state))); (try simp only [Act.put, List.setIfInBounds_toArray, List.set_cons_zero, List.set_cons_succ, List.getElem_toArray, List.getElem_cons_zero, List.getElem_cons_succ])
      (refine takeOn (i := 8) (v := ?_) (by kernel_rfl) (by rfl) (by rfl) (by kernel_rfl) (by kernel_rfl) (by intro _ _ _ h; exact h) ?_ (by assumption) ?_); (rotate_left 1); (focus ((intro w hSw); (try dsimp only at hSw); go_simp; (try with_reducible rfl))); (try simp only [Act.put, List.setIfInBounds_toArray, List.set_cons_zero, List.set_cons_succ, List.getElem_toArray, List.getElem_cons_zero, List.getElem_cons_succ])
      refine takeOne (i := 3) (by kernel_rfl) (by rfl) (by rfl) (fun K hK => ?_)
      go_simp; (go_at_call 72; (with_reducible refine Calls.mono (l1Below_all w0 _ p _ (by omega) hCD) ?_); rintro e wa1 ⟨y1, rfl, hy1, hC6, hF6⟩; have hG6 := hF6.blk hGD (by omega); have hR6 := hF6.blk hRD (by omega); have hO6 := hF6.own hOD hpA; have hF6' := hFD.trans hF6; have d6 := hG6.cell (i := 0) (v := .slice ao L.length c) rfl)
      refine hK.out _ _ (by first | exact ⟨hCD, d0⟩ | exact ⟨hC6, d6⟩ | exact ⟨hC7, d7⟩ | exact ⟨hC8, e0⟩) (fun hHeld => ?_)
      clear hK K
      (try simp only [Act.put, List.setIfInBounds_toArray, List.set_cons_zero, List.set_cons_succ, List.getElem_toArray, List.getElem_cons_zero, List.getElem_cons_succ])
      refine takeOne (i := 9) (by kernel_rfl) (by rfl) (by rfl) (fun K hK => ?_)
      go_simp; (go_at_call 72; (with_reducible refine Calls.mono (l1Below_all w0 _ p _ (by omega) hC6) ?_); rintro e wa2 ⟨y, rfl, hy, hC7, hF7⟩; have hG7 := hF7.blk hG6 (by omega); have hR7 := hF7.blk hR6 (by omega); have hO7 := hF7.own hO6 hpA; have hF7' := hF6'.trans hF7; have d7 := hG7.cell (i := 0) (v := .slice ao L.length c) rfl)
      refine hK.out _ _ (by first | exact ⟨hCD, d0⟩ | exact ⟨hC6, d6⟩ | exact ⟨hC7, d7⟩ | exact ⟨hC8, e0⟩) (fun hHeld => ?_)
      clear hK K
      (try simp only [Act.put, List.setIfInBounds_toArray, List.set_cons_zero, List.set_cons_succ, List.getElem_toArray, List.getElem_cons_zero, List.getElem_cons_succ])
      refine takeOne (i := 10) (by kernel_rfl) (by rfl) (by rfl) (fun K hK => ?_)
      go_simp; (go_at_call 90; (with_reducible refine Calls.mono (sProgressionSet_ex _ L _ _ _ _ hO7.ints) ?_); rintro e wa3 ⟨za, rfl, hX⟩; have hB8 := hG7.ext hX; have hR8 := hR7.ext hX; have hO8 := hO7.ext hX; have hC8 := hC7.ext hX; have hF8 := hF7'.trans (Ext.drw hX p); have e0 := hB8.cell (i := 0) (v := .slice ao L.length c) rfl)
      refine hK.out _ _ (by first | exact ⟨hCD, d0⟩ | exact ⟨hC6, d6⟩ | exact ⟨hC7, d7⟩ | exact ⟨hC8, e0⟩) (fun hHeld => ?_)
      clear hK K
      (try simp only [Act.put, List.setIfInBounds_toArray, List.set_cons_zero, List.set_cons_succ, List.getElem_toArray, List.getElem_cons_zero, List.getElem_cons_succ])
      (refine takeOn (i := 11) (v := ?_) (by kernel_rfl) (by rfl) (by rfl) (by kernel_rfl) (by kernel_rfl) (by intro _ _ _ h; exact h) ?_ (by assumption) ?_); (rotate_left 1); (focus ((intro w hSw); (try dsimp only at hSw); go_simp; (try with_reducible rfl))); (try simp only [Act.put, List.setIfInBounds_toArray, List.set_cons_zero, List.set_cons_succ, List.getElem_toArray, List.getElem_cons_zero, List.getElem_cons_succ])
      refine wpAnyH_done (by kernel_rfl) ?_ _
      skip
      clear hCD hGD hRD hOD hFD d0 hC6 hG6 hR6 hO6 hF6 hF6' d6 hC7 hG7 hR7 hO7 hF7 hF7' d7 hX e0 hy1 hy
      replace hR := hR8
      replace hG := hB8
      replace hO := hO8
      replace hC := hC8
      replace hF := hF8
      clear hR8 hB8 hO8 hC8 hF8
      go_wp2_with fail
      go_upto_region 5 with fail
      have hCD := hC.ext ((Ext.refl wa3).drew)
      have hOD := hO.drew
      have hGD := hG.drew
      have hRD := hR.drew
      have hFD := hF.trans (((Ext.refl wa3).drew).drw p)
      have d0 := hGD.cell (i := 0) (v := .slice ao L.length c) rfl
      refine wp_region_held_drew (S := (fun W => Cur w0 W p ∧ W.cell? ⟨g, 0, none⟩ = some (.slice ao L.length c))) (by kernel_rfl) (by exact ⟨hCD, d0⟩) (fun hHeld => ?_)
      (refine takeOn (i := 0) (v := ?_) (by kernel_rfl) (by rfl) (by rfl) (by kernel_rfl) (by kernel_rfl) (by intro _ _ _ h; exact h) ?_ (by assumption) ?_); (rotate_left 1); (focus ((intro w hSw); (try dsimp only at hSw); go_simp; (try with_reducible rfl))); (try simp only [Act.put, List.setIfInBounds_toArray, List.set_cons_zero, List.set_cons_succ, List.getElem_toArray, List.getElem_cons_zero, List.getElem_cons_succ])
      (refine takeOn (i := 1) (v := ?_) (by kernel_rfl) (by rfl) (by rfl) (by kernel_rfl) (by kernel_rfl) (by intro _ _ _ h; exact h) ?_ (by assumption) ?_); (rotate_left 1); (focus ((intro w hSw); (try dsimp only at hSw); go_simp; (try with_reducible rfl))); (try simp only [Act.put, List.setIfInBounds_toArray, List.set_cons_zero, List.set_cons_succ, List.getElem_toArray, List.getElem_cons_zero, List.getElem_cons_succ])
      (refine takeOn (i := 2) (v := ?_) (by kernel_rfl) (by rfl) (by rfl) (by kernel_rfl) (by kernel_rfl) (by intro _ _ _ h; exact h) ?_ (by assumption) ?_); (rotate_left 1); (focus ((intro w hSw); (try dsimp only at hSw); go_simp; (try with_reducible rfl))); (try simp only [Act.put, List.setIfInBounds_toArray, List.set_cons_zero, List.set_cons_succ, List.getElem_toArray, List.getElem_cons_zero, List.getElem_cons_succ])
      (refine takeOn (i := 4) (v := ?_) (by kernel_rfl) (by rfl) (by rfl) (by kernel_rfl) (by kernel_rfl) (by intro _ _ _ h; exact h) ?_ (by assumption) ?_); (rotate_left 1); (focus ((intro w hSw); (try dsimp only at hSw); go_simp; (try with_reducible rfl))); (try simp only [Act.put, List.setIfInBounds_toArray, List.set_cons_zero, List.set_cons_succ, List.getElem_toArray, List.getElem_cons_zero, List.getElem_cons_succ])
      (refine takeOn (i := 5) (v := ?_) (by kernel_rfl) (by rfl) (by rfl) (by kernel_rfl) (by kernel_rfl) (by intro _ _ _ h; exact h) ?_ (by assumption) ?_); (rotate_left 1); (focus ((intro w hSw); (try dsimp only at hSw); go_simp; (try with_reducible rfl))); (try simp only [Act.put, List.setIfInBounds_toArray, List.set_cons_zero, List.set_cons_succ, List.getElem_toArray, List.getElem_cons_zero, List.getElem_cons_succ])
      (refine takeOn (i := 6) (v := ?_) (by kernel_rfl) (by rfl) (by rfl) (by kernel_rfl) (by kernel_rfl) (by intro _ _ _ h; exact h) ?_ (by assumption) ?_); (rotate_left 1); (focus ((intro w hSw); (try dsimp only at hSw); go_simp; (try with_reducible rfl))); (try simp only [Act.put, List.setIfInBounds_toArray, List.set_cons_zero, List.set_cons_succ, List.getElem_toArray, List.getElem_cons_zero, List.getElem_cons_succ])
      (refine takeOn (i := 7) (v := ?_) (by kernel_rfl) (by rfl) (by rfl) (by kernel_rfl) (by kernel_rfl) (by intro _ _ _ h; exact h) ?_ (by assumption) ?_); (rotate_left 1); (focus ((intro w hSw); (try dsimp only at hSw); go_simp; (first | done | with_reducible rfl | (rw [if_neg]; (try simp only [ByteArray.size_append, ByteArray.size_mk, List.size_toArray, List.length_cons, List.length_nil]); omega) | trace_state))); (try simp only [Act.put, List.setIfInBounds_toArray, List.set_cons_zero, List.set_cons_succ, List.getElem_toArray, List.getElem_cons_zero, List.getElem_cons_succ])
      (refine takeOn (i := 8) (v := ?_) (by kernel_rfl) (by rfl) (by rfl) (by kernel_rfl) (by kernel_rfl) (by intro _ _ _ h; exact h) ?_ (by assumption) ?_); (rotate_left 1); (focus ((intro w hSw); (try dsimp only at hSw); go_simp; (try with_reducible rfl))); (try simp only [Act.put, List.setIfInBounds_toArray, List.set_cons_zero, List.set_cons_succ, List.getElem_toArray, List.getElem_cons_zero, List.getElem_cons_succ])
      refine takeOne (i := 3) (by kernel_rfl) (by rfl) (by rfl) (fun K hK => ?_)
      go_simp; (go_at_call 72; (with_reducible refine Calls.mono (l1Below_all w0 _ p _ (by omega) hCD) ?_); rintro e wb1 ⟨y1, rfl, hy1, hC6, hF6⟩; have hG6 := hF6.blk hGD (by omega); have hR6 := hF6.blk hRD (by omega); have hO6 := hF6.own hOD hpA; have hF6' := hFD.trans hF6; have d6 := hG6.cell (i := 0) (v := .slice ao L.length c) rfl)
      refine hK.out _ _ (by first | exact ⟨hCD, d0⟩ | exact ⟨hC6, d6⟩ | exact ⟨hC7, d7⟩ | exact ⟨hC8, e0⟩) (fun hHeld => ?_)
      clear hK K
      (try simp only [Act.put, List.setIfInBounds_toArray, List.set_cons_zero, List.set_cons_succ, List.getElem_toArray, List.getElem_cons_zero, List.getElem_cons_succ])
      refine takeOne (i := 9) (by kernel_rfl) (by rfl) (by rfl) (fun K hK => ?_)
      go_simp; (go_at_call 72; (with_reducible refine Calls.mono (l1Below_all w0 _ p _ (by omega) hC6) ?_); rintro e wb2 ⟨y, rfl, hy, hC7, hF7⟩; have hG7 := hF7.blk hG6 (by omega); have hR7 := hF7.blk hR6 (by omega); have hO7 := hF7.own hO6 hpA; have hF7' := hF6'.trans hF7; have d7 := hG7.cell (i := 0) (v := .slice ao L.length c) rfl)
      refine hK.out _ _ (by first | exact ⟨hCD, d0⟩ | exact ⟨hC6, d6⟩ | exact ⟨hC7, d7⟩ | exact ⟨hC8, e0⟩) (fun hHeld => ?_)
      clear hK K
      (try simp only [Act.put, List.setIfInBounds_toArray, List.set_cons_zero, List.set_cons_succ, List.getElem_toArray, List.getElem_cons_zero, List.getElem_cons_succ])
      refine takeOne (i := 10) (by kernel_rfl) (by rfl) (by rfl) (fun K hK => ?_)
      go_simp; (go_at_call 90; (with_reducible refine Calls.mono (sProgressionSet_ex _ L _ _ _ _ hO7.ints) ?_); rintro e wb3 ⟨zb, rfl, hX⟩; have hB8 := hG7.ext hX; have hR8 := hR7.ext hX; have hO8 := hO7.ext hX; have hC8 := hC7.ext hX; have hF8 := hF7'.trans (Ext.drw hX p); have e0 := hB8.cell (i := 0) (v := .slice ao L.length c) rfl)
      refine hK.out _ _ (by first | exact ⟨hCD, d0⟩ | exact ⟨hC6, d6⟩ | exact ⟨hC7, d7⟩ | exact ⟨hC8, e0⟩) (fun hHeld => ?_)
      clear hK K
      (try simp only [Act.put, List.setIfInBounds_toArray, List.set_cons_zero, List.set_cons_succ, List.getElem_toArray, List.getElem_cons_zero, List.getElem_cons_succ])
      (refine takeOn (i := 11) (v := ?_) (by kernel_rfl) (by rfl) (by rfl) (by kernel_rfl) (by kernel_rfl) (by intro _ _ _ h; exact h) ?_ (by assumption) ?_); (rotate_left 1); (focus ((intro w hSw); (try dsimp only at hSw); go_simp; (try with_reducible rfl))); (try simp only [Act.put, List.setIfInBounds_toArray, List.set_cons_zero, List.set_cons_succ, List.getElem_toArray, List.getElem_cons_zero, List.getElem_cons_succ])
      refine wpAnyH_done (by kernel_rfl) ?_ _
      skip
      clear hCD hGD hRD hOD hFD d0 hC6 hG6 hR6 hO6 hF6 hF6' d6 hC7 hG7 hR7 hO7 hF7 hF7' d7 hX e0 hy1 hy
      replace hR := hR8
      replace hG := hB8
      replace hO := hO8
      replace hC := hC8
      replace hF := hF8
      clear hR8 hB8 hO8 hC8 hF8
      obtain ⟨a, ha⟩ : ∃ a, a = za := ⟨_, rfl⟩
      obtain ⟨b, hb⟩ : ∃ b, b = zb := ⟨_, rfl⟩
      rw [← ha, ← hb]
      clear ha hb
      go_wp2_with fail
      refine (l1Once_any w0 _ p 3 (by omega) hC).mono ?_
      rintro e we1 ⟨b1, rfl, hC5, hF5⟩
      replace hR := hF5.blk hR (by omega)
      replace hG := hF5.blk hG (by omega)
      replace hO := hF5.own hO hpA
      replace hC := hC5
      replace hF := hF.trans hF5
      clear hC5 hF5
      cases b1
      · skip
        go_wp2_with fail
        refine (l1Once_any w0 _ p 3 (by omega) hC).mono ?_
        rintro e wf1 ⟨b2, rfl, hC5, hF5⟩
        replace hR := hF5.blk hR (by omega)
        replace hG := hF5.blk hG (by omega)
        replace hO := hF5.own hO hpA
        replace hC := hC5
        replace hF := hF.trans hF5
        clear hC5 hF5
        cases b2
        · skip
          have hR8 := hR
          have hB8 := hG
          have hO8 := hO
          have hC8 := hC
          have hF8 := hF
          have r0 := hR8.cell (i := 0) (v := .slice none 0 0) rfl; have f0 := hR8.free 0; have e0 := hB8.cell (i := 0) (v := .slice ao L.length c) rfl; have hO9 := (Own.setCell_below hO8 (p := ⟨w.heap.size, 0, none⟩) (by show w.heap.size < _; omega) (.slice ao L.length c)).low (w0 := w) (by omega); have hC9 := hC8.other (b := w.heap.size) (i := 0) (by omega) (by omega) (.slice ao L.length c); have hF9 := hF8.set (b := w.heap.size) (Nat.le_refl _) 0 (.slice ao L.length c); have e1 := (hB8.other (p := ⟨w.heap.size, 0, none⟩) ngw (.slice ao L.length c)).cell (i := 0) (v := .slice ao L.length c) rfl; have q0 := (hR8.set 0 (.slice ao L.length c)).cell (i := 0) (v := .slice ao L.length c) rfl
          go_wp2_with fail
          clear r0 f0 e0 e1
          generalize wf1.setCell ⟨w.heap.size, 0, none⟩ (.slice ao L.length c) = w9 at hO9 hC9 hF9 q0 ⊢
          exact bodyPost_ret (v := .tuple #[.agg #[.slice ao L.length c], .int .i64 a, .int .i64 b]) (by simp [results, Tryz.results54, go_sem, q0]) rfl ⟨_, L, _, a, b, rfl, hO9, hC9, hF9⟩
        · have l1 := hG.cell (i := 0) (v := .slice ao L.length c) rfl
          go_wp2_with fail
          refine (l3Set_any w0 _ wA p _ _ hC hO hpA).mono ?_
          rintro e wf2 ⟨t2, rfl, ht2, hC5, hF5⟩
          clear l1
          replace hR := hF5.blk hR (by omega)
          replace hG := hF5.blk hG (by omega)
          replace hO := hF5.own hO hpA
          replace hC := hC5
          replace hF := hF.trans hF5
          clear hC5 hF5
          have hR8 := hR
          have hB8 := hG
          have hO8 := hO
          have hC8 := hC
          have hF8 := hF
          have r0 := hR8.cell (i := 0) (v := .slice none 0 0) rfl; have f0 := hR8.free 0; have e0 := hB8.cell (i := 0) (v := .slice ao L.length c) rfl; have hO9 := (Own.setCell_below hO8 (p := ⟨w.heap.size, 0, none⟩) (by show w.heap.size < _; omega) (.slice ao L.length c)).low (w0 := w) (by omega); have hC9 := hC8.other (b := w.heap.size) (i := 0) (by omega) (by omega) (.slice ao L.length c); have hF9 := hF8.set (b := w.heap.size) (Nat.le_refl _) 0 (.slice ao L.length c); have e1 := (hB8.other (p := ⟨w.heap.size, 0, none⟩) ngw (.slice ao L.length c)).cell (i := 0) (v := .slice ao L.length c) rfl; have q0 := (hR8.set 0 (.slice ao L.length c)).cell (i := 0) (v := .slice ao L.length c) rfl
          go_wp2_with fail
          clear r0 f0 e0 e1
          generalize wf2.setCell ⟨w.heap.size, 0, none⟩ (.slice ao L.length c) = w9 at hO9 hC9 hF9 q0 ⊢
          exact bodyPost_ret (v := .tuple #[.agg #[.slice ao L.length c], .int .i64 a, .int .i64 t2]) (by simp [results, Tryz.results54, go_sem, q0]) rfl ⟨_, L, _, a, t2, rfl, hO9, hC9, hF9⟩
      · have l1 := hG.cell (i := 0) (v := .slice ao L.length c) rfl
        go_wp2_with fail
        refine (l3Set_any w0 _ wA p _ _ hC hO hpA).mono ?_
        rintro e we2 ⟨t1, rfl, ht1, hC5, hF5⟩
        clear l1
        replace hR := hF5.blk hR (by omega)
        replace hG := hF5.blk hG (by omega)
        replace hO := hF5.own hO hpA
        replace hC := hC5
        replace hF := hF.trans hF5
        clear hC5 hF5
        go_wp2_with fail
        refine (l1Once_any w0 _ p 3 (by omega) hC).mono ?_
        rintro e wf1 ⟨b2, rfl, hC5, hF5⟩
        replace hR := hF5.blk hR (by omega)
        replace hG := hF5.blk hG (by omega)
        replace hO := hF5.own hO hpA
        replace hC := hC5
        replace hF := hF.trans hF5
        clear hC5 hF5
        cases b2
        · skip
          have hR8 := hR
          have hB8 := hG
          have hO8 := hO
          have hC8 := hC
          have hF8 := hF
          have r0 := hR8.cell (i := 0) (v := .slice none 0 0) rfl; have f0 := hR8.free 0; have e0 := hB8.cell (i := 0) (v := .slice ao L.length c) rfl; have hO9 := (Own.setCell_below hO8 (p := ⟨w.heap.size, 0, none⟩) (by show w.heap.size < _; omega) (.slice ao L.length c)).low (w0 := w) (by omega); have hC9 := hC8.other (b := w.heap.size) (i := 0) (by omega) (by omega) (.slice ao L.length c); have hF9 := hF8.set (b := w.heap.size) (Nat.le_refl _) 0 (.slice ao L.length c); have e1 := (hB8.other (p := ⟨w.heap.size, 0, none⟩) ngw (.slice ao L.length c)).cell (i := 0) (v := .slice ao L.length c) rfl; have q0 := (hR8.set 0 (.slice ao L.length c)).cell (i := 0) (v := .slice ao L.length c) rfl
          go_wp2_with fail
          clear r0 f0 e0 e1
          generalize wf1.setCell ⟨w.heap.size, 0, none⟩ (.slice ao L.length c) = w9 at hO9 hC9 hF9 q0 ⊢
          exact bodyPost_ret (v := .tuple #[.agg #[.slice ao L.length c], .int .i64 t1, .int .i64 b]) (by simp [results, Tryz.results54, go_sem, q0]) rfl ⟨_, L, _, t1, b, rfl, hO9, hC9, hF9⟩
        · have l1 := hG.cell (i := 0) (v := .slice ao L.length c) rfl
          go_wp2_with fail
          refine (l3Set_any w0 _ wA p _ _ hC hO hpA).mono ?_
          rintro e wf2 ⟨t2, rfl, ht2, hC5, hF5⟩
          clear l1
          replace hR := hF5.blk hR (by omega)
          replace hG := hF5.blk hG (by omega)
          replace hO := hF5.own hO hpA
          replace hC := hC5
          replace hF := hF.trans hF5
          clear hC5 hF5
          have hR8 := hR
          have hB8 := hG
          have hO8 := hO
          have hC8 := hC
          have hF8 := hF
          have r0 := hR8.cell (i := 0) (v := .slice none 0 0) rfl; have f0 := hR8.free 0; have e0 := hB8.cell (i := 0) (v := .slice ao L.length c) rfl; have hO9 := (Own.setCell_below hO8 (p := ⟨w.heap.size, 0, none⟩) (by show w.heap.size < _; omega) (.slice ao L.length c)).low (w0 := w) (by omega); have hC9 := hC8.other (b := w.heap.size) (i := 0) (by omega) (by omega) (.slice ao L.length c); have hF9 := hF8.set (b := w.heap.size) (Nat.le_refl _) 0 (.slice ao L.length c); have e1 := (hB8.other (p := ⟨w.heap.size, 0, none⟩) ngw (.slice ao L.length c)).cell (i := 0) (v := .slice ao L.length c) rfl; have q0 := (hR8.set 0 (.slice ao L.length c)).cell (i := 0) (v := .slice ao L.length c) rfl
          go_wp2_with fail
          clear r0 f0 e0 e1
          generalize wf2.setCell ⟨w.heap.size, 0, none⟩ (.slice ao L.length c) = w9 at hO9 hC9 hF9 q0 ⊢
          exact bodyPost_ret (v := .tuple #[.agg #[.slice ao L.length c], .int .i64 t1, .int .i64 t2]) (by simp [results, Tryz.results54, go_sem, q0]) rfl ⟨_, L, _, t1, t2, rfl, hO9, hC9, hF9⟩
  · skip
    go_wp2_with fail
    refine (l1Below_all w0 _ p _ (by omega) hC).mono ?_
    rintro e w5 ⟨d, rfl, hd, hC5, hF5⟩
    replace hR := hF5.blk hR (by omega)
    replace hG := hF5.blk hG (by omega)
    replace hO := hF5.own hO hpA
    replace hC := hC5
    replace hF := hF.trans hF5
    clear hC5 hF5
    go_wp2_with fail
    go_upto_region 4 with fail
    have hCD := hC.ext ((Ext.refl w5).drew)
    have hOD := hO.drew
    have hGD := hG.drew
    have hRD := hR.drew
    have hFD := hF.trans (((Ext.refl w5).drew).drw p)
    have d0 := hGD.cell (i := 0) (v := .slice ao L.length c) rfl
    refine wp_region_held_drew (S := (fun W => Cur w0 W p ∧ W.cell? ⟨g, 0, none⟩ = some (.slice ao L.length c))) (by kernel_rfl) (by exact ⟨hCD, d0⟩) (fun hHeld => ?_)
    (refine takeOn (i := 0) (v := ?_) (by kernel_rfl) (by rfl) (by rfl) (by kernel_rfl) (by kernel_rfl) (by intro _ _ _ h; exact h) ?_ (by assumption) ?_); (rotate_left 1); (focus ((intro w hSw); (try dsimp only at hSw); go_simp; (try with_reducible rfl))); (try simp only [Act.put, List.setIfInBounds_toArray, List.set_cons_zero, List.set_cons_succ, List.getElem_toArray, List.getElem_cons_zero, List.getElem_cons_succ])
    (refine takeOn (i := 1) (v := ?_) (by kernel_rfl) (by rfl) (by rfl) (by kernel_rfl) (by kernel_rfl) (by intro _ _ _ h; exact h) ?_ (by assumption) ?_); (rotate_left 1); (focus ((intro w hSw); (try dsimp only at hSw); go_simp; (try with_reducible rfl))); (try simp only [Act.put, List.setIfInBounds_toArray, List.set_cons_zero, List.set_cons_succ, List.getElem_toArray, List.getElem_cons_zero, List.getElem_cons_succ])
    (refine takeOn (i := 2) (v := ?_) (by kernel_rfl) (by rfl) (by rfl) (by kernel_rfl) (by kernel_rfl) (by intro _ _ _ h; exact h) ?_ (by assumption) ?_); (rotate_left 1); (focus ((intro w hSw); (try dsimp only at hSw); go_simp; (try with_reducible rfl))); (try simp only [Act.put, List.setIfInBounds_toArray, List.set_cons_zero, List.set_cons_succ, List.getElem_toArray, List.getElem_cons_zero, List.getElem_cons_succ])
    (refine takeOn (i := 4) (v := ?_) (by kernel_rfl) (by rfl) (by rfl) (by kernel_rfl) (by kernel_rfl) (by intro _ _ _ h; exact h) ?_ (by assumption) ?_); (rotate_left 1); (focus ((intro w hSw); (try dsimp only at hSw); go_simp; (try with_reducible rfl))); (try simp only [Act.put, List.setIfInBounds_toArray, List.set_cons_zero, List.set_cons_succ, List.getElem_toArray, List.getElem_cons_zero, List.getElem_cons_succ])
    (refine takeOn (i := 5) (v := ?_) (by kernel_rfl) (by rfl) (by rfl) (by kernel_rfl) (by kernel_rfl) (by intro _ _ _ h; exact h) ?_ (by assumption) ?_); (rotate_left 1); (focus ((intro w hSw); (try dsimp only at hSw); go_simp; (try with_reducible rfl))); (try simp only [Act.put, List.setIfInBounds_toArray, List.set_cons_zero, List.set_cons_succ, List.getElem_toArray, List.getElem_cons_zero, List.getElem_cons_succ])
    (refine takeOn (i := 6) (v := ?_) (by kernel_rfl) (by rfl) (by rfl) (by kernel_rfl) (by kernel_rfl) (by intro _ _ _ h; exact h) ?_ (by assumption) ?_); (rotate_left 1); (focus ((intro w hSw); (try dsimp only at hSw); go_simp; (try with_reducible rfl))); (try simp only [Act.put, List.setIfInBounds_toArray, List.set_cons_zero, List.set_cons_succ, List.getElem_toArray, List.getElem_cons_zero, List.getElem_cons_succ])
    (refine takeOn (i := 7) (v := ?_) (by kernel_rfl) (by rfl) (by rfl) (by kernel_rfl) (by kernel_rfl) (by intro _ _ _ h; exact h) ?_ (by assumption) ?_); (rotate_left 1); (focus ((intro w hSw); (try dsimp only at hSw); go_simp; (first | done | with_reducible rfl | (rw [if_neg]; (try simp only [ByteArray.size_append, ByteArray.size_mk, List.size_toArray, List.length_cons, List.length_nil]); omega) | trace_state))); (try simp only [Act.put, List.setIfInBounds_toArray, List.set_cons_zero, List.set_cons_succ, List.getElem_toArray, List.getElem_cons_zero, List.getElem_cons_succ])
    (refine takeOn (i := 8) (v := ?_) (by kernel_rfl) (by rfl) (by rfl) (by kernel_rfl) (by kernel_rfl) (by intro _ _ _ h; exact h) ?_ (by assumption) ?_); (rotate_left 1); (focus ((intro w hSw); (try dsimp only at hSw); go_simp; (try with_reducible rfl))); (try simp only [Act.put, List.setIfInBounds_toArray, List.set_cons_zero, List.set_cons_succ, List.getElem_toArray, List.getElem_cons_zero, List.getElem_cons_succ])
    refine takeOne (i := 3) (by kernel_rfl) (by rfl) (by rfl) (fun K hK => ?_)
    go_simp; (go_at_call 72; (with_reducible refine Calls.mono (l1Below_all w0 _ p _ (by omega) hCD) ?_); rintro e wa1 ⟨y1, rfl, hy1, hC6, hF6⟩; have hG6 := hF6.blk hGD (by omega); have hR6 := hF6.blk hRD (by omega); have hO6 := hF6.own hOD hpA; have hF6' := hFD.trans hF6; have d6 := hG6.cell (i := 0) (v := .slice ao L.length c) rfl)
    refine hK.out _ _ (by first | exact ⟨hCD, d0⟩ | exact ⟨hC6, d6⟩ | exact ⟨hC7, d7⟩ | exact ⟨hC8, e0⟩) (fun hHeld => ?_)
    clear hK K
    (try simp only [Act.put, List.setIfInBounds_toArray, List.set_cons_zero, List.set_cons_succ, List.getElem_toArray, List.getElem_cons_zero, List.getElem_cons_succ])
    refine takeOne (i := 9) (by kernel_rfl) (by rfl) (by rfl) (fun K hK => ?_)
    go_simp; (go_at_call 72; (with_reducible refine Calls.mono (l1Below_all w0 _ p _ (by omega) hC6) ?_); rintro e wa2 ⟨y, rfl, hy, hC7, hF7⟩; have hG7 := hF7.blk hG6 (by omega); have hR7 := hF7.blk hR6 (by omega); have hO7 := hF7.own hO6 hpA; have hF7' := hF6'.trans hF7; have d7 := hG7.cell (i := 0) (v := .slice ao L.length c) rfl)
    refine hK.out _ _ (by first | exact ⟨hCD, d0⟩ | exact ⟨hC6, d6⟩ | exact ⟨hC7, d7⟩ | exact ⟨hC8, e0⟩) (fun hHeld => ?_)
    clear hK K
    (try simp only [Act.put, List.setIfInBounds_toArray, List.set_cons_zero, List.set_cons_succ, List.getElem_toArray, List.getElem_cons_zero, List.getElem_cons_succ])
    refine takeOne (i := 10) (by kernel_rfl) (by rfl) (by rfl) (fun K hK => ?_)
    go_simp; (go_at_call 90; (with_reducible refine Calls.mono (sProgressionSet_ex _ L _ _ _ _ hO7.ints) ?_); rintro e wa3 ⟨za, rfl, hX⟩; have hB8 := hG7.ext hX; have hR8 := hR7.ext hX; have hO8 := hO7.ext hX; have hC8 := hC7.ext hX; have hF8 := hF7'.trans (Ext.drw hX p); have e0 := hB8.cell (i := 0) (v := .slice ao L.length c) rfl)
    refine hK.out _ _ (by first | exact ⟨hCD, d0⟩ | exact ⟨hC6, d6⟩ | exact ⟨hC7, d7⟩ | exact ⟨hC8, e0⟩) (fun hHeld => ?_)
    clear hK K
    (try simp only [Act.put, List.setIfInBounds_toArray, List.set_cons_zero, List.set_cons_succ, List.getElem_toArray, List.getElem_cons_zero, List.getElem_cons_succ])
    (refine takeOn (i := 11) (v := ?_) (by kernel_rfl) (by rfl) (by rfl) (by kernel_rfl) (by kernel_rfl) (by intro _ _ _ h; exact h) ?_ (by assumption) ?_); (rotate_left 1); (focus ((intro w hSw); (try dsimp only at hSw); go_simp; (try with_reducible rfl))); (try simp only [Act.put, List.setIfInBounds_toArray, List.set_cons_zero, List.set_cons_succ, List.getElem_toArray, List.getElem_cons_zero, List.getElem_cons_succ])
    refine wpAnyH_done (by kernel_rfl) ?_ _
    skip
    clear hCD hGD hRD hOD hFD d0 hC6 hG6 hR6 hO6 hF6 hF6' d6 hC7 hG7 hR7 hO7 hF7 hF7' d7 hX e0 hy1 hy
    replace hR := hR8
    replace hG := hB8
    replace hO := hO8
    replace hC := hC8
    replace hF := hF8
    clear hR8 hB8 hO8 hC8 hF8
    go_wp2_with fail
    go_upto_region 5 with fail
    have hCD := hC.ext ((Ext.refl wa3).drew)
    have hOD := hO.drew
    have hGD := hG.drew
    have hRD := hR.drew
    have hFD := hF.trans (((Ext.refl wa3).drew).drw p)
    have d0 := hGD.cell (i := 0) (v := .slice ao L.length c) rfl
    refine wp_region_held_drew (S := (fun W => Cur w0 W p ∧ W.cell? ⟨g, 0, none⟩ = some (.slice ao L.length c))) (by kernel_rfl) (by exact ⟨hCD, d0⟩) (fun hHeld => ?_)
    (refine takeOn (i := 0) (v := ?_) (by kernel_rfl) (by rfl) (by rfl) (by kernel_rfl) (by kernel_rfl) (by intro _ _ _ h; exact h) ?_ (by assumption) ?_); (rotate_left 1); (focus ((intro w hSw); (try dsimp only at hSw); go_simp; (try with_reducible rfl))); (try simp only [Act.put, List.setIfInBounds_toArray, List.set_cons_zero, List.set_cons_succ, List.getElem_toArray, List.getElem_cons_zero, List.getElem_cons_succ])
    (refine takeOn (i := 1) (v := ?_) (by kernel_rfl) (by rfl) (by rfl) (by kernel_rfl) (by kernel_rfl) (by intro _ _ _ h; exact h) ?_ (by assumption) ?_); (rotate_left 1); (focus ((intro w hSw); (try dsimp only at hSw); go_simp; (try with_reducible rfl))); (try simp only [Act.put, List.setIfInBounds_toArray, List.set_cons_zero, List.set_cons_succ, List.getElem_toArray, List.getElem_cons_zero, List.getElem_cons_succ])
    (refine takeOn (i := 2) (v := ?_) (by kernel_rfl) (by rfl) (by rfl) (by kernel_rfl) (by kernel_rfl) (by intro _ _ _ h; exact h) ?_ (by assumption) ?_); (rotate_left 1); (focus ((intro w hSw); (try dsimp only at hSw); go_simp; (try with_reducible rfl))); (try simp only [Act.put, List.setIfInBounds_toArray, List.set_cons_zero, List.set_cons_succ, List.getElem_toArray, List.getElem_cons_zero, List.getElem_cons_succ])
    (refine takeOn (i := 4) (v := ?_) (by kernel_rfl) (by rfl) (by rfl) (by kernel_rfl) (by kernel_rfl) (by intro _ _ _ h; exact h) ?_ (by assumption) ?_); (rotate_left 1); (focus ((intro w hSw); (try dsimp only at hSw); go_simp; (try with_reducible rfl))); (try simp only [Act.put, List.setIfInBounds_toArray, List.set_cons_zero, List.set_cons_succ, List.getElem_toArray, List.getElem_cons_zero, List.getElem_cons_succ])
    (refine takeOn (i := 5) (v := ?_) (by kernel_rfl) (by rfl) (by rfl) (by kernel_rfl) (by kernel_rfl) (by intro _ _ _ h; exact h) ?_ (by assumption) ?_); (rotate_left 1); (focus ((intro w hSw); (try dsimp only at hSw); go_simp; (try with_reducible rfl))); (try simp only [Act.put, List.setIfInBounds_toArray, List.set_cons_zero, List.set_cons_succ, List.getElem_toArray, List.getElem_cons_zero, List.getElem_cons_succ])
    (refine takeOn (i := 6) (v := ?_) (by kernel_rfl) (by rfl) (by rfl) (by kernel_rfl) (by kernel_rfl) (by intro _ _ _ h; exact h) ?_ (by assumption) ?_); (rotate_left 1); (focus ((intro w hSw); (try dsimp only at hSw); go_simp; (try with_reducible rfl))); (try simp only [Act.put, List.setIfInBounds_toArray, List.set_cons_zero, List.set_cons_succ, List.getElem_toArray, List.getElem_cons_zero, List.getElem_cons_succ])
    (refine takeOn (i := 7) (v := ?_) (by kernel_rfl) (by rfl) (by rfl) (by kernel_rfl) (by kernel_rfl) (by intro _ _ _ h; exact h) ?_ (by assumption) ?_); (rotate_left 1); (focus ((intro w hSw); (try dsimp only at hSw); go_simp; (first | done | with_reducible rfl | (rw [if_neg]; (try simp only [ByteArray.size_append, ByteArray.size_mk, List.size_toArray, List.length_cons, List.length_nil]); omega) | trace_state))); (try simp only [Act.put, List.setIfInBounds_toArray, List.set_cons_zero, List.set_cons_succ, List.getElem_toArray, List.getElem_cons_zero, List.getElem_cons_succ])
    (refine takeOn (i := 8) (v := ?_) (by kernel_rfl) (by rfl) (by rfl) (by kernel_rfl) (by kernel_rfl) (by intro _ _ _ h; exact h) ?_ (by assumption) ?_); (rotate_left 1); (focus ((intro w hSw); (try dsimp only at hSw); go_simp; (try with_reducible rfl))); (try simp only [Act.put, List.setIfInBounds_toArray, List.set_cons_zero, List.set_cons_succ, List.getElem_toArray, List.getElem_cons_zero, List.getElem_cons_succ])
    refine takeOne (i := 3) (by kernel_rfl) (by rfl) (by rfl) (fun K hK => ?_)
    go_simp; (go_at_call 72; (with_reducible refine Calls.mono (l1Below_all w0 _ p _ (by omega) hCD) ?_); rintro e wb1 ⟨y1, rfl, hy1, hC6, hF6⟩; have hG6 := hF6.blk hGD (by omega); have hR6 := hF6.blk hRD (by omega); have hO6 := hF6.own hOD hpA; have hF6' := hFD.trans hF6; have d6 := hG6.cell (i := 0) (v := .slice ao L.length c) rfl)
    refine hK.out _ _ (by first | exact ⟨hCD, d0⟩ | exact ⟨hC6, d6⟩ | exact ⟨hC7, d7⟩ | exact ⟨hC8, e0⟩) (fun hHeld => ?_)
    clear hK K
    (try simp only [Act.put, List.setIfInBounds_toArray, List.set_cons_zero, List.set_cons_succ, List.getElem_toArray, List.getElem_cons_zero, List.getElem_cons_succ])
    refine takeOne (i := 9) (by kernel_rfl) (by rfl) (by rfl) (fun K hK => ?_)
    go_simp; (go_at_call 72; (with_reducible refine Calls.mono (l1Below_all w0 _ p _ (by omega) hC6) ?_); rintro e wb2 ⟨y, rfl, hy, hC7, hF7⟩; have hG7 := hF7.blk hG6 (by omega); have hR7 := hF7.blk hR6 (by omega); have hO7 := hF7.own hO6 hpA; have hF7' := hF6'.trans hF7; have d7 := hG7.cell (i := 0) (v := .slice ao L.length c) rfl)
    refine hK.out _ _ (by first | exact ⟨hCD, d0⟩ | exact ⟨hC6, d6⟩ | exact ⟨hC7, d7⟩ | exact ⟨hC8, e0⟩) (fun hHeld => ?_)
    clear hK K
    (try simp only [Act.put, List.setIfInBounds_toArray, List.set_cons_zero, List.set_cons_succ, List.getElem_toArray, List.getElem_cons_zero, List.getElem_cons_succ])
    refine takeOne (i := 10) (by kernel_rfl) (by rfl) (by rfl) (fun K hK => ?_)
    go_simp; (go_at_call 90; (with_reducible refine Calls.mono (sProgressionSet_ex _ L _ _ _ _ hO7.ints) ?_); rintro e wb3 ⟨zb, rfl, hX⟩; have hB8 := hG7.ext hX; have hR8 := hR7.ext hX; have hO8 := hO7.ext hX; have hC8 := hC7.ext hX; have hF8 := hF7'.trans (Ext.drw hX p); have e0 := hB8.cell (i := 0) (v := .slice ao L.length c) rfl)
    refine hK.out _ _ (by first | exact ⟨hCD, d0⟩ | exact ⟨hC6, d6⟩ | exact ⟨hC7, d7⟩ | exact ⟨hC8, e0⟩) (fun hHeld => ?_)
    clear hK K
    (try simp only [Act.put, List.setIfInBounds_toArray, List.set_cons_zero, List.set_cons_succ, List.getElem_toArray, List.getElem_cons_zero, List.getElem_cons_succ])
    (refine takeOn (i := 11) (v := ?_) (by kernel_rfl) (by rfl) (by rfl) (by kernel_rfl) (by kernel_rfl) (by intro _ _ _ h; exact h) ?_ (by assumption) ?_); (rotate_left 1); (focus ((intro w hSw); (try dsimp only at hSw); go_simp; (try with_reducible rfl))); (try simp only [Act.put, List.setIfInBounds_toArray, List.set_cons_zero, List.set_cons_succ, List.getElem_toArray, List.getElem_cons_zero, List.getElem_cons_succ])
    refine wpAnyH_done (by kernel_rfl) ?_ _
    skip
    clear hCD hGD hRD hOD hFD d0 hC6 hG6 hR6 hO6 hF6 hF6' d6 hC7 hG7 hR7 hO7 hF7 hF7' d7 hX e0 hy1 hy
    replace hR := hR8
    replace hG := hB8
    replace hO := hO8
    replace hC := hC8
    replace hF := hF8
    clear hR8 hB8 hO8 hC8 hF8
    obtain ⟨a, ha⟩ : ∃ a, a = za := ⟨_, rfl⟩
    obtain ⟨b, hb⟩ : ∃ b, b = zb := ⟨_, rfl⟩
    rw [← ha, ← hb]
    clear ha hb
    go_wp2_with fail
    refine (l1Once_any w0 _ p 3 (by omega) hC).mono ?_
    rintro e we1 ⟨b1, rfl, hC5, hF5⟩
    replace hR := hF5.blk hR (by omega)
    replace hG := hF5.blk hG (by omega)
    replace hO := hF5.own hO hpA
    replace hC := hC5
    replace hF := hF.trans hF5
    clear hC5 hF5
    cases b1
    · skip
      go_wp2_with fail
      refine (l1Once_any w0 _ p 3 (by omega) hC).mono ?_
      rintro e wf1 ⟨b2, rfl, hC5, hF5⟩
      replace hR := hF5.blk hR (by omega)
      replace hG := hF5.blk hG (by omega)
      replace hO := hF5.own hO hpA
      replace hC := hC5
      replace hF := hF.trans hF5
      clear hC5 hF5
      cases b2
      · skip
        have hR8 := hR
        have hB8 := hG
        have hO8 := hO
        have hC8 := hC
        have hF8 := hF
        have r0 := hR8.cell (i := 0) (v := .slice none 0 0) rfl; have f0 := hR8.free 0; have e0 := hB8.cell (i := 0) (v := .slice ao L.length c) rfl; have hO9 := (Own.setCell_below hO8 (p := ⟨w.heap.size, 0, none⟩) (by show w.heap.size < _; omega) (.slice ao L.length c)).low (w0 := w) (by omega); have hC9 := hC8.other (b := w.heap.size) (i := 0) (by omega) (by omega) (.slice ao L.length c); have hF9 := hF8.set (b := w.heap.size) (Nat.le_refl _) 0 (.slice ao L.length c); have e1 := (hB8.other (p := ⟨w.heap.size, 0, none⟩) ngw (.slice ao L.length c)).cell (i := 0) (v := .slice ao L.length c) rfl; have q0 := (hR8.set 0 (.slice ao L.length c)).cell (i := 0) (v := .slice ao L.length c) rfl
        go_wp2_with fail
        clear r0 f0 e0 e1
        generalize wf1.setCell ⟨w.heap.size, 0, none⟩ (.slice ao L.length c) = w9 at hO9 hC9 hF9 q0 ⊢
        exact bodyPost_ret (v := .tuple #[.agg #[.slice ao L.length c], .int .i64 a, .int .i64 b]) (by simp [results, Tryz.results54, go_sem, q0]) rfl ⟨_, L, _, a, b, rfl, hO9, hC9, hF9⟩
      · have l1 := hG.cell (i := 0) (v := .slice ao L.length c) rfl
        go_wp2_with fail
        refine (l3Set_any w0 _ wA p _ _ hC hO hpA).mono ?_
        rintro e wf2 ⟨t2, rfl, ht2, hC5, hF5⟩
        clear l1
        replace hR := hF5.blk hR (by omega)
        replace hG := hF5.blk hG (by omega)
        replace hO := hF5.own hO hpA
        replace hC := hC5
        replace hF := hF.trans hF5
        clear hC5 hF5
        have hR8 := hR
        have hB8 := hG
        have hO8 := hO
        have hC8 := hC
        have hF8 := hF
        have r0 := hR8.cell (i := 0) (v := .slice none 0 0) rfl; have f0 := hR8.free 0; have e0 := hB8.cell (i := 0) (v := .slice ao L.length c) rfl; have hO9 := (Own.setCell_below hO8 (p := ⟨w.heap.size, 0, none⟩) (by show w.heap.size < _; omega) (.slice ao L.length c)).low (w0 := w) (by omega); have hC9 := hC8.other (b := w.heap.size) (i := 0) (by omega) (by omega) (.slice ao L.length c); have hF9 := hF8.set (b := w.heap.size) (Nat.le_refl _) 0 (.slice ao L.length c); have e1 := (hB8.other (p := ⟨w.heap.size, 0, none⟩) ngw (.slice ao L.length c)).cell (i := 0) (v := .slice ao L.length c) rfl; have q0 := (hR8.set 0 (.slice ao L.length c)).cell (i := 0) (v := .slice ao L.length c) rfl
        go_wp2_with fail
        clear r0 f0 e0 e1
        generalize wf2.setCell ⟨w.heap.size, 0, none⟩ (.slice ao L.length c) = w9 at hO9 hC9 hF9 q0 ⊢
        exact bodyPost_ret (v := .tuple #[.agg #[.slice ao L.length c], .int .i64 a, .int .i64 t2]) (by simp [results, Tryz.results54, go_sem, q0]) rfl ⟨_, L, _, a, t2, rfl, hO9, hC9, hF9⟩
    · have l1 := hG.cell (i := 0) (v := .slice ao L.length c) rfl
      go_wp2_with fail
      refine (l3Set_any w0 _ wA p _ _ hC hO hpA).mono ?_
      rintro e we2 ⟨t1, rfl, ht1, hC5, hF5⟩
      clear l1
      replace hR := hF5.blk hR (by omega)
      replace hG := hF5.blk hG (by omega)
      replace hO := hF5.own hO hpA
      replace hC := hC5
      replace hF := hF.trans hF5
      clear hC5 hF5
      go_wp2_with fail
      refine (l1Once_any w0 _ p 3 (by omega) hC).mono ?_
      rintro e wf1 ⟨b2, rfl, hC5, hF5⟩
      replace hR := hF5.blk hR (by omega)
      replace hG := hF5.blk hG (by omega)
      replace hO := hF5.own hO hpA
      replace hC := hC5
      replace hF := hF.trans hF5
      clear hC5 hF5
      cases b2
      · skip
        have hR8 := hR
        have hB8 := hG
        have hO8 := hO
        have hC8 := hC
        have hF8 := hF
        have r0 := hR8.cell (i := 0) (v := .slice none 0 0) rfl; have f0 := hR8.free 0; have e0 := hB8.cell (i := 0) (v := .slice ao L.length c) rfl; have hO9 := (Own.setCell_below hO8 (p := ⟨w.heap.size, 0, none⟩) (by show w.heap.size < _; omega) (.slice ao L.length c)).low (w0 := w) (by omega); have hC9 := hC8.other (b := w.heap.size) (i := 0) (by omega) (by omega) (.slice ao L.length c); have hF9 := hF8.set (b := w.heap.size) (Nat.le_refl _) 0 (.slice ao L.length c); have e1 := (hB8.other (p := ⟨w.heap.size, 0, none⟩) ngw (.slice ao L.length c)).cell (i := 0) (v := .slice ao L.length c) rfl; have q0 := (hR8.set 0 (.slice ao L.length c)).cell (i := 0) (v := .slice ao L.length c) rfl
        go_wp2_with fail
        clear r0 f0 e0 e1
        generalize wf1.setCell ⟨w.heap.size, 0, none⟩ (.slice ao L.length c) = w9 at hO9 hC9 hF9 q0 ⊢
        exact bodyPost_ret (v := .tuple #[.agg #[.slice ao L.length c], .int .i64 t1, .int .i64 b]) (by simp [results, Tryz.results54, go_sem, q0]) rfl ⟨_, L, _, t1, b, rfl, hO9, hC9, hF9⟩
      · have l1 := hG.cell (i := 0) (v := .slice ao L.length c) rfl
        go_wp2_with fail
        refine (l3Set_any w0 _ wA p _ _ hC hO hpA).mono ?_
        rintro e wf2 ⟨t2, rfl, ht2, hC5, hF5⟩
        clear l1
        replace hR := hF5.blk hR (by omega)
        replace hG := hF5.blk hG (by omega)
        replace hO := hF5.own hO hpA
        replace hC := hC5
        replace hF := hF.trans hF5
        clear hC5 hF5
        have hR8 := hR
        have hB8 := hG
        have hO8 := hO
        have hC8 := hC
        have hF8 := hF
        have r0 := hR8.cell (i := 0) (v := .slice none 0 0) rfl; have f0 := hR8.free 0; have e0 := hB8.cell (i := 0) (v := .slice ao L.length c) rfl; have hO9 := (Own.setCell_below hO8 (p := ⟨w.heap.size, 0, none⟩) (by show w.heap.size < _; omega) (.slice ao L.length c)).low (w0 := w) (by omega); have hC9 := hC8.other (b := w.heap.size) (i := 0) (by omega) (by omega) (.slice ao L.length c); have hF9 := hF8.set (b := w.heap.size) (Nat.le_refl _) 0 (.slice ao L.length c); have e1 := (hB8.other (p := ⟨w.heap.size, 0, none⟩) ngw (.slice ao L.length c)).cell (i := 0) (v := .slice ao L.length c) rfl; have q0 := (hR8.set 0 (.slice ao L.length c)).cell (i := 0) (v := .slice ao L.length c) rfl
        go_wp2_with fail
        clear r0 f0 e0 e1
        generalize wf2.setCell ⟨w.heap.size, 0, none⟩ (.slice ao L.length c) = w9 at hO9 hC9 hF9 q0 ⊢
        exact bodyPost_ret (v := .tuple #[.agg #[.slice ao L.length c], .int .i64 t1, .int .i64 t2]) (by simp [results, Tryz.results54, go_sem, q0]) rfl ⟨_, L, _, t1, t2, rfl, hO9, hC9, hF9⟩
theorem DrawKempermanCase_any (v : Value) (l : List Int) (w : World) (h : Byts w v l) :
    Calls Tryz.prog 18 #[v] w fun e w' => ∃ ao L c x0 x1, e = .returned (.tuple #[.agg #[.slice ao (List.length L) c], .int .i64 x0, .int .i64 x1]) ∧ Own 3 w w' (.slice ao (List.length L) c) L ∧ Ext w w' := by
  have hE0 := (Ext.refl w).alloc (.cells #[.slice none 0 0] 26)
  have hB0 := Blk.new w 26 #[.slice none 0 0]
  obtain ⟨wZ, hwZ⟩ : ∃ x, x = w.alloc (.cells #[.slice none 0 0] 26) := ⟨_, rfl⟩
  have hsZ : w.heap.size < wZ.heap.size := by rw [hwZ]; simp
  rw [← hwZ] at hE0 hB0
  have HwZ := Lib.hid hwZ
  clear hwZ
  go_enter Tryz.func18, Tryz.ntmps18
  go_wp2_with fail
  rw [← HwZ.out]
  refine (l1New_any _ _ w _ h hE0).mono ?_
  rintro e wA ⟨p, rfl, hC1, hE1, hpZ⟩
  have hp := hC1.lt
  have hR1 := hB0.ext hE1
  have hsA : w.heap.size < wA.heap.size := Nat.lt_of_lt_of_le hsZ hE1.size
  have npw : p ≠ w.heap.size := by omega
  clear hB0 hE1 hE0
  go_wp2_with fail
  refine (l1Once_any w _ p 2 (by omega) hC1).mono ?_
  rintro e w5 ⟨bb, rfl, hC5, hF5⟩
  have hR5 := hF5.blk hR1 (by omega)
  have hs5 := hF5.size
  have hsB : w.heap.size < w5.heap.size := by omega
  cases bb
  · go_wp2_with fail
    refine (l9Two_any _ _ _ (h.ext hC5.base)).mono ?_
    rintro e w2 ⟨ao, L, c, x0, x1, rfl, hO, hE2⟩
    have hR := hR5.ext hE2
    have hE := hC5.base.trans hE2
    have hR8 := hR.alloc (.cells #[.slice ao L.length c] 26)
    have r0 := hR8.cell (i := 0) (v := .slice none 0 0) rfl
    have f0 := hR8.free 0
    have e0 := (Blk.new w2 26 #[.slice ao L.length c]).cell (i := 0) (v := .slice ao L.length c) rfl
    have hO9 := (Own.setCell_below (hO.alloc (.cells #[.slice ao L.length c] 26)) (p := ⟨w.heap.size, 0, none⟩) (by show w.heap.size < _; omega) (.slice ao L.length c)).low (w0 := w) (by omega)
    have hE9 := (hE.alloc (.cells #[.slice ao L.length c] 26)).setCell (p := ⟨w.heap.size, 0, none⟩) (Nat.le_refl _) (.slice ao L.length c)
    have q0 := (hR8.set 0 (.slice ao L.length c)).cell (i := 0) (v := .slice ao L.length c) rfl
    go_wp2_with fail
    clear r0 f0 e0 hR8
    generalize (w2.alloc (.cells #[.slice ao L.length c] 26)).setCell ⟨w.heap.size, 0, none⟩ (.slice ao L.length c) = w9 at hO9 hE9 q0 ⊢
    exact bodyPost_ret (v := .tuple #[.agg #[.slice ao L.length c], .int .i64 x0, .int .i64 x1]) (by simp [results, Tryz.results18, go_sem, q0]) rfl ⟨_, L, _, x0, x1, rfl, hO9, hE9⟩
  · go_wp2_with fail
    refine (l10Set_any w w5 p hC5).mono ?_
    rintro e w2 ⟨ao, L, c, x0, x1, rfl, hO, hC, hF2⟩
    have hR := hF2.blk hR5 (by omega)
    have hE := hC.base
    have hR8 := hR.alloc (.cells #[.slice ao L.length c] 26)
    have r0 := hR8.cell (i := 0) (v := .slice none 0 0) rfl
    have f0 := hR8.free 0
    have e0 := (Blk.new w2 26 #[.slice ao L.length c]).cell (i := 0) (v := .slice ao L.length c) rfl
    have hO9 := (Own.setCell_below (hO.alloc (.cells #[.slice ao L.length c] 26)) (p := ⟨w.heap.size, 0, none⟩) (by show w.heap.size < _; omega) (.slice ao L.length c)).low (w0 := w) (by omega)
    have hE9 := (hE.alloc (.cells #[.slice ao L.length c] 26)).setCell (p := ⟨w.heap.size, 0, none⟩) (Nat.le_refl _) (.slice ao L.length c)
    have q0 := (hR8.set 0 (.slice ao L.length c)).cell (i := 0) (v := .slice ao L.length c) rfl
    go_wp2_with fail
    clear r0 f0 e0 hR8
    generalize (w2.alloc (.cells #[.slice ao L.length c] 26)).setCell ⟨w.heap.size, 0, none⟩ (.slice ao L.length c) = w9 at hO9 hE9 q0 ⊢
    exact bodyPost_ret (v := .tuple #[.agg #[.slice ao L.length c], .int .i64 x0, .int .i64 x1]) (by simp [results, Tryz.results18, go_sem, q0]) rfl ⟨_, L, _, x0, x1, rfl, hO9, hE9⟩
end Go.Zz
