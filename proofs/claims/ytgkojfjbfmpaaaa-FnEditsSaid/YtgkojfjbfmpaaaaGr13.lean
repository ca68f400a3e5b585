/- The draws of the law on edits: kept counts with an element, two kept counts. -/
import Derived.Test.YtgkojfjbfmpaaaaGr12
import Derived.Test.YtgkojfjbfmpaaaaGr6
import Derived.Test.YtgkojfjbfmpaaaaGr8
import Derived.Test.YtgkojfjbfmpaaaaGr3
import Derived.Test.YtgkojfjbfmpaaaaGr4
import Derived.Test.YtgkojfjbfmpaaaaGr7
namespace Go.Zz
open Go.RowKit Go.Proofs
set_option maxHeartbeats 4000000
set_option maxRecDepth 20000

theorem l30Both_any (v : Value) (l : List Int) (w : World) (h : Byts w v l) :
    Calls Try.prog 59 #[v] w fun e w' => ∃ c x, e = .returned (.tuple #[c, .int .i64 x]) ∧ KeptO w w' c ∧ (-9223372036854775808 ≤ x ∧ x ≤ 9223372036854775807) ∧ Ext w w' := by
  have hE0 := (Ext.refl w).alloc (.cells #[.slice none 0 0, .int .i64 0, .slice none 0 0] 28)
  have hB0 := Blk.new w 28 #[.slice none 0 0, .int .i64 0, .slice none 0 0]
  obtain ⟨wA, hwA⟩ : ∃ x, x = w.alloc (.cells #[.slice none 0 0, .int .i64 0, .slice none 0 0] 28) := ⟨_, rfl⟩
  have hsA : w.heap.size < wA.heap.size := by rw [hwA]; simp
  rw [← hwA] at hE0 hB0
  have HwA := Lib.hid hwA
  clear hwA
  go_enter Try.func59, Try.ntmps59
  go_wp2_with fail
  rw [← HwA.out]
  refine (l1New_any _ _ w _ h hE0).mono ?_
  rintro e w2 ⟨p, rfl, hC2, hE2, hpA⟩
  have hp2 := hC2.lt
  have hB2 := hB0.ext hE2
  go_wp2_with fail
  refine (l30Kept_any w w2 p hC2).mono ?_
  rintro e w3 ⟨c, rfl, ⟨aL, L, cL, N, aM, M, cM, rfl, hK, hN⟩, hC3, hF3⟩
  unfold KVal at hK ⊢
  have hB3 := hF3.blk hB2 (by omega)
  have hs3 := hF3.size
  have nw : w3.heap.size ≠ w.heap.size := by omega
  have hBk := Blk.new w3 28 #[.slice aL L.length cL, .int .i64 N, .slice aM M.length cM]
  have hR4 := hB3.alloc (.cells #[.slice aL L.length cL, .int .i64 N, .slice aM M.length cM] 28)
  have hK4 := hK.ext ((Ext.refl w3).alloc (.cells #[.slice aL L.length cL, .int .i64 N, .slice aM M.length cM] 28))
  have hC4 := hC3.alloc (.cells #[.slice aL L.length cL, .int .i64 N, .slice aM M.length cM] 28)
  obtain ⟨w4, hw4⟩ : ∃ x, x = w3.alloc (.cells #[.slice aL L.length cL, .int .i64 N, .slice aM M.length cM] 28) := ⟨_, rfl⟩
  have hs4 : w3.heap.size < w4.heap.size := by rw [hw4]; simp
  rw [← hw4] at hBk hR4 hK4 hC4
  have Hw4 := Lib.hid hw4
  clear hw4 hB0 hB2 hB3 hK hC3 hF3 hE0 hE2
  go_wp2_with fail
  rw [← Hw4.out]
  go_upto_region 3 with fail
  obtain ⟨v1, v2, ev, h1, h2, hd⟩ := hK4
  simp only [Value.agg.injEq, Array.mk.injEq, List.cons.injEq, true_and, and_true] at ev
  obtain ⟨rfl, rfl⟩ := ev
  have hCD := hC4.ext ((Ext.refl w4).drew)
  have hBD := hBk.drew
  have hRD := hR4.drew
  have h1D := h1.drew
  have h2D := h2.drew
  have d0 := hBD.cell (i := 0) (v := .slice aL L.length cL) rfl
  have d1 := hBD.cell (i := 1) (v := .int .i64 N) rfl
  have d2 := hBD.cell (i := 2) (v := .slice aM M.length cM) rfl
  clear hBk hR4 hC4 h1 h2
  refine wp_region_held_drew (S := (fun W => Cur w W p ∧ W.cell? ⟨w3.heap.size, 0, none⟩ = some (.slice aL L.length cL) ∧ W.cell? ⟨w3.heap.size, 1, none⟩ = some (.int .i64 N) ∧ W.cell? ⟨w3.heap.size, 2, none⟩ = some (.slice aM M.length cM))) (by kernel_rfl) (by exact ⟨hCD, d0, d1, d2⟩) (fun hHeld => ?_)
  (refine takeOn (i := 0) (v := ?_) (by kernel_rfl) (by rfl) (by rfl) (by kernel_rfl) (by kernel_rfl) (by intro _ _ _ h; exact h) ?_ (by assumption) ?_); (rotate_left 1); (focus ((intro w hSw); (try dsimp only at hSw); go_simp; (try with_reducible rfl))); (try simp only [Act.put, List.setIfInBounds_toArray, List.set_cons_zero, List.set_cons_succ, List.getElem_toArray, List.getElem_cons_zero, List.getElem_cons_succ])
  (refine takeOn (i := 1) (v := ?_) (by kernel_rfl) (by rfl) (by rfl) (by kernel_rfl) (by kernel_rfl) (by intro _ _ _ h; exact h) ?_ (by assumption) ?_); (rotate_left 1); (focus ((intro w hSw); (try dsimp only at hSw); go_simp; (try with_reducible rfl))); (try simp only [Act.put, List.setIfInBounds_toArray, List.set_cons_zero, List.set_cons_succ, List.getElem_toArray, List.getElem_cons_zero, List.getElem_cons_succ])
  (refine takeOn (i := 2) (v := ?_) (by kernel_rfl) (by rfl) (by rfl) (by kernel_rfl) (by kernel_rfl) (by intro _ _ _ h; exact h) ?_ (by assumption) ?_); (rotate_left 1); (focus ((intro w hSw); (try dsimp only at hSw); go_simp; (try with_reducible rfl))); (try simp only [Act.put, List.setIfInBounds_toArray, List.set_cons_zero, List.set_cons_succ, List.getElem_toArray, List.getElem_cons_zero, List.getElem_cons_succ])
  (refine takeOn (i := 3) (v := ?_) (by kernel_rfl) (by rfl) (by rfl) (by kernel_rfl) (by kernel_rfl) (by intro _ _ _ h; exact h) ?_ (by assumption) ?_); (rotate_left 1); (focus ((intro w hSw); (try dsimp only at hSw); go_simp; (try with_reducible rfl))); (try simp only [Act.put, List.setIfInBounds_toArray, List.set_cons_zero, List.set_cons_succ, List.getElem_toArray, List.getElem_cons_zero, List.getElem_cons_succ])
  refine takeOne (i := 4) (by kernel_rfl) (by rfl) (by rfl) (fun K hK => ?_)
  go_simp; (go_at_call 135; (with_reducible refine Calls.mono (l2Element_any w _ w2 p _ _ hHeld.1 h1D hp2.2) ?_); rintro e w8 ⟨x, rfl, hx, hC8, hF8⟩; have hB8 := hF8.blk hBD (by omega); have hR8 := hF8.blk hRD (by omega); have h18 := hF8.own h1D hp2.2; have h28 := hF8.own h2D hp2.2; have hK8 : OwnK2 w2 w8 (.agg #[.slice aL L.length cL, .int .i64 N, .slice aM M.length cM]) L N M := ⟨_, _, rfl, h18, h28, hd⟩; have e0 := hB8.cell (i := 0) (v := .slice aL L.length cL) rfl; have e1 := hB8.cell (i := 1) (v := .int .i64 N) rfl; have e2 := hB8.cell (i := 2) (v := .slice aM M.length cM) rfl; have r0 := hR8.cell (i := 0) (v := .slice none 0 0) rfl; have r1 := hR8.cell (i := 1) (v := .int .i64 0) rfl; have r2 := hR8.cell (i := 2) (v := .slice none 0 0) rfl; have f0 := hR8.free 0; have f1 := hR8.free 1; have f2 := hR8.free 2; have R1 := hR8.set 0 (.slice aL L.length cL); have R2 := R1.set 1 (.int .i64 N); have R3 := R2.set 2 (.slice aM M.length cM); have hK9 := setK2 (setK2 (setK2 hK8 hR8 (by decide) (i := 0) (.slice aL L.length cL)) R1 (by decide) (i := 1) (.int .i64 N)) R2 (by decide) (i := 2) (.slice aM M.length cM); have hC9 := ((hC8.other (b := w.heap.size) (i := 0) (by omega) (by omega) (.slice aL L.length cL)).other (b := w.heap.size) (i := 1) (by omega) (by omega) (.int .i64 N)).other (b := w.heap.size) (i := 2) (by omega) (by omega) (.slice aM M.length cM); have q0 := R3.cell (i := 0) (v := .slice aL L.length cL) rfl; have q1 := R3.cell (i := 1) (v := .int .i64 N) rfl; have q2 := R3.cell (i := 2) (v := .slice aM M.length cM) rfl; have hB9 := ((hB8.other (p := ⟨w.heap.size, 0, none⟩) nw (.slice aL L.length cL)).other (p := ⟨w.heap.size, 1, none⟩) nw (.int .i64 N)).other (p := ⟨w.heap.size, 2, none⟩) nw (.slice aM M.length cM); have g0 := hB9.cell (i := 0) (v := .slice aL L.length cL) rfl; have g1 := hB9.cell (i := 1) (v := .int .i64 N) rfl; have g2 := hB9.cell (i := 2) (v := .slice aM M.length cM) rfl)
  refine hK.out _ _ (by first | exact ⟨hC8, e0, e1, e2⟩ | exact ⟨hC9, g0, g1, g2⟩) (fun hHeld => ?_)
  clear hK K
  (try simp only [Act.put, List.setIfInBounds_toArray, List.set_cons_zero, List.set_cons_succ, List.getElem_toArray, List.getElem_cons_zero, List.getElem_cons_succ])
  refine takeOne (i := 5) (by kernel_rfl) (by rfl) (by rfl) (fun K hK => ?_)
  go_simp
  refine hK.out _ _ (by first | exact ⟨hC8, e0, e1, e2⟩ | exact ⟨hC9, g0, g1, g2⟩) (fun hHeld => ?_)
  clear hK K
  (try simp only [Act.put, List.setIfInBounds_toArray, List.set_cons_zero, List.set_cons_succ, List.getElem_toArray, List.getElem_cons_zero, List.getElem_cons_succ])
  (refine takeOn (i := 6) (v := ?_) (by kernel_rfl) (by rfl) (by rfl) (by kernel_rfl) (by kernel_rfl) (by intro _ _ _ h; exact h) ?_ (by assumption) ?_); (rotate_left 1); (focus ((intro w hSw); (try dsimp only at hSw); go_simp; (try with_reducible rfl))); (try simp only [Act.put, List.setIfInBounds_toArray, List.set_cons_zero, List.set_cons_succ, List.getElem_toArray, List.getElem_cons_zero, List.getElem_cons_succ])
  refine wpAnyH_done (by kernel_rfl) ?_ _
  go_wp2_with fail
  clear e0 e1 e2 r0 r1 r2 f0 f1 f2 g0 g1 g2 R1 R2 R3 hB9
  generalize ((w8.setCell ⟨w.heap.size, 0, none⟩ (.slice aL L.length cL)).setCell ⟨w.heap.size, 1, none⟩ (.int .i64 N)).setCell ⟨w.heap.size, 2, none⟩ (.slice aM M.length cM) = w9 at hK9 hC9 q0 q1 q2 ⊢
  exact bodyPost_ret (v := .tuple #[.agg #[.slice aL L.length cL, .int .i64 N, .slice aM M.length cM], .int .i64 x]) (by simp [results, Try.results59, go_sem, q0, q1, q2]) rfl ⟨_, x, rfl, ⟨aL, L, cL, N, aM, M, cM, rfl, hK9.low (by omega), hN⟩, hx, hC9.base⟩
theorem DrawAddTo_any (v : Value) (l : List Int) (w : World) (h : Byts w v l) :
    Calls Try.prog 8 #[v] w fun e w' => ∃ c x, e = .returned (.tuple #[c, .int .i64 x]) ∧ KeptO w w' c ∧ (-9223372036854775808 ≤ x ∧ x ≤ 9223372036854775807) ∧ Ext w w' := by
  have hE0 := (Ext.refl w).alloc (.cells #[.slice none 0 0, .int .i64 0, .slice none 0 0] 28)
  have hB0 := Blk.new w 28 #[.slice none 0 0, .int .i64 0, .slice none 0 0]
  obtain ⟨wA, hwA⟩ : ∃ x, x = w.alloc (.cells #[.slice none 0 0, .int .i64 0, .slice none 0 0] 28) := ⟨_, rfl⟩
  have hsA : w.heap.size < wA.heap.size := by rw [hwA]; simp
  rw [← hwA] at hE0 hB0
  have HwA := Lib.hid hwA
  clear hwA
  go_enter Try.func8, Try.ntmps8
  go_wp2_with fail
  rw [← HwA.out]
  refine (l30Both_any _ _ _ (h.ext hE0)).mono ?_
  rintro e w3 ⟨c, x, rfl, ⟨aL, L, cL, N, aM, M, cM, rfl, hK, hN⟩, hx, hE⟩
  unfold KVal at hK ⊢
  have hB3 := hB0.ext hE
  have hE3 := hE0.trans hE
  have hBk := Blk.new w3 28 #[.slice aL L.length cL, .int .i64 N, .slice aM M.length cM]
  have hR := hB3.alloc (.cells #[.slice aL L.length cL, .int .i64 N, .slice aM M.length cM] 28)
  have hK4 := hK.ext ((Ext.refl w3).alloc (.cells #[.slice aL L.length cL, .int .i64 N, .slice aM M.length cM] 28))
  have hE4 := hE3.alloc (.cells #[.slice aL L.length cL, .int .i64 N, .slice aM M.length cM] 28)
  clear hB0 hB3 hK hE3 hE0 hE
  have k0 := hBk.cell (i := 0) (v := .slice aL L.length cL) rfl
  have k1 := hBk.cell (i := 1) (v := .int .i64 N) rfl
  have k2 := hBk.cell (i := 2) (v := .slice aM M.length cM) rfl
  have r0 := hR.cell (i := 0) (v := .slice none 0 0) rfl
  have r1 := hR.cell (i := 1) (v := .int .i64 0) rfl
  have r2 := hR.cell (i := 2) (v := .slice none 0 0) rfl
  have f0 := hR.free 0
  have f1 := hR.free 1
  have f2 := hR.free 2
  have R1 := hR.set 0 (.slice aL L.length cL)
  have R2 := R1.set 1 (.int .i64 N)
  have R3 := R2.set 2 (.slice aM M.length cM)
  have hK9 := setK2 (setK2 (setK2 hK4 hR (by decide) (i := 0) (.slice aL L.length cL)) R1 (by decide) (i := 1) (.int .i64 N)) R2 (by decide) (i := 2) (.slice aM M.length cM)
  have hE9 := ((hE4.setCell (p := ⟨w.heap.size, 0, none⟩) (Nat.le_refl _) (.slice aL L.length cL)).setCell (p := ⟨w.heap.size, 1, none⟩) (Nat.le_refl _) (.int .i64 N)).setCell (p := ⟨w.heap.size, 2, none⟩) (Nat.le_refl _) (.slice aM M.length cM)
  have q0 := R3.cell (i := 0) (v := .slice aL L.length cL) rfl
  have q1 := R3.cell (i := 1) (v := .int .i64 N) rfl
  have q2 := R3.cell (i := 2) (v := .slice aM M.length cM) rfl
  clear R1 R2 R3
  go_wp2_with fail
  clear k0 k1 k2 r0 r1 r2 f0 f1 f2
  generalize (((w3.alloc (.cells #[.slice aL L.length cL, .int .i64 N, .slice aM M.length cM] 28)).setCell ⟨w.heap.size, 0, none⟩ (.slice aL L.length cL)).setCell ⟨w.heap.size, 1, none⟩ (.int .i64 N)).setCell ⟨w.heap.size, 2, none⟩ (.slice aM M.length cM) = w9 at hK9 hE9 q0 q1 q2 ⊢
  exact bodyPost_ret (v := .tuple #[.agg #[.slice aL L.length cL, .int .i64 N, .slice aM M.length cM], .int .i64 x]) (by simp [results, Try.results8, go_sem, q0, q1, q2]) rfl ⟨_, x, rfl, ⟨aL, L, cL, N, aM, M, cM, rfl, hK9.low (by omega), hN⟩, hx, hE9⟩
theorem DrawRemoveFrom_any (v : Value) (l : List Int) (w : World) (h : Byts w v l) :
    Calls Try.prog 19 #[v] w fun e w' => ∃ c x, e = .returned (.tuple #[c, .int .i64 x]) ∧ KeptO w w' c ∧ (-9223372036854775808 ≤ x ∧ x ≤ 9223372036854775807) ∧ Ext w w' := by
  have hE0 := (Ext.refl w).alloc (.cells #[.slice none 0 0, .int .i64 0, .slice none 0 0] 28)
  have hB0 := Blk.new w 28 #[.slice none 0 0, .int .i64 0, .slice none 0 0]
  obtain ⟨wA, hwA⟩ : ∃ x, x = w.alloc (.cells #[.slice none 0 0, .int .i64 0, .slice none 0 0] 28) := ⟨_, rfl⟩
  have hsA : w.heap.size < wA.heap.size := by rw [hwA]; simp
  rw [← hwA] at hE0 hB0
  have HwA := Lib.hid hwA
  clear hwA
  go_enter Try.func19, Try.ntmps19
  go_wp2_with fail
  rw [← HwA.out]
  refine (l30Both_any _ _ _ (h.ext hE0)).mono ?_
  rintro e w3 ⟨c, x, rfl, ⟨aL, L, cL, N, aM, M, cM, rfl, hK, hN⟩, hx, hE⟩
  unfold KVal at hK ⊢
  have hB3 := hB0.ext hE
  have hE3 := hE0.trans hE
  have hBk := Blk.new w3 28 #[.slice aL L.length cL, .int .i64 N, .slice aM M.length cM]
  have hR := hB3.alloc (.cells #[.slice aL L.length cL, .int .i64 N, .slice aM M.length cM] 28)
  have hK4 := hK.ext ((Ext.refl w3).alloc (.cells #[.slice aL L.length cL, .int .i64 N, .slice aM M.length cM] 28))
  have hE4 := hE3.alloc (.cells #[.slice aL L.length cL, .int .i64 N, .slice aM M.length cM] 28)
  clear hB0 hB3 hK hE3 hE0 hE
  have k0 := hBk.cell (i := 0) (v := .slice aL L.length cL) rfl
  have k1 := hBk.cell (i := 1) (v := .int .i64 N) rfl
  have k2 := hBk.cell (i := 2) (v := .slice aM M.length cM) rfl
  have r0 := hR.cell (i := 0) (v := .slice none 0 0) rfl
  have r1 := hR.cell (i := 1) (v := .int .i64 0) rfl
  have r2 := hR.cell (i := 2) (v := .slice none 0 0) rfl
  have f0 := hR.free 0
  have f1 := hR.free 1
  have f2 := hR.free 2
  have R1 := hR.set 0 (.slice aL L.length cL)
  have R2 := R1.set 1 (.int .i64 N)
  have R3 := R2.set 2 (.slice aM M.length cM)
  have hK9 := setK2 (setK2 (setK2 hK4 hR (by decide) (i := 0) (.slice aL L.length cL)) R1 (by decide) (i := 1) (.int .i64 N)) R2 (by decide) (i := 2) (.slice aM M.length cM)
  have hE9 := ((hE4.setCell (p := ⟨w.heap.size, 0, none⟩) (Nat.le_refl _) (.slice aL L.length cL)).setCell (p := ⟨w.heap.size, 1, none⟩) (Nat.le_refl _) (.int .i64 N)).setCell (p := ⟨w.heap.size, 2, none⟩) (Nat.le_refl _) (.slice aM M.length cM)
  have q0 := R3.cell (i := 0) (v := .slice aL L.length cL) rfl
  have q1 := R3.cell (i := 1) (v := .int .i64 N) rfl
  have q2 := R3.cell (i := 2) (v := .slice aM M.length cM) rfl
  clear R1 R2 R3
  go_wp2_with fail
  clear k0 k1 k2 r0 r1 r2 f0 f1 f2
  generalize (((w3.alloc (.cells #[.slice aL L.length cL, .int .i64 N, .slice aM M.length cM] 28)).setCell ⟨w.heap.size, 0, none⟩ (.slice aL L.length cL)).setCell ⟨w.heap.size, 1, none⟩ (.int .i64 N)).setCell ⟨w.heap.size, 2, none⟩ (.slice aM M.length cM) = w9 at hK9 hE9 q0 q1 q2 ⊢
  exact bodyPost_ret (v := .tuple #[.agg #[.slice aL L.length cL, .int .i64 N, .slice aM M.length cM], .int .i64 x]) (by simp [results, Try.results19, go_sem, q0, q1, q2]) rfl ⟨_, x, rfl, ⟨aL, L, cL, N, aM, M, cM, rfl, hK9.low (by omega), hN⟩, hx, hE9⟩
theorem DrawIsKept_any (v : Value) (l : List Int) (w : World) (h : Byts w v l) :
    Calls Try.prog 21 #[v] w fun e w' => ∃ c, e = .returned c ∧ KeptO w w' c ∧ Ext w w' := by
  have hE0 := (Ext.refl w).alloc (.cells #[.slice none 0 0, .int .i64 0, .slice none 0 0] 28)
  have hB0 := Blk.new w 28 #[.slice none 0 0, .int .i64 0, .slice none 0 0]
  obtain ⟨wA, hwA⟩ : ∃ x, x = w.alloc (.cells #[.slice none 0 0, .int .i64 0, .slice none 0 0] 28) := ⟨_, rfl⟩
  have hsA : w.heap.size < wA.heap.size := by rw [hwA]; simp
  rw [← hwA] at hE0 hB0
  have HwA := Lib.hid hwA
  clear hwA
  go_enter Try.func21, Try.ntmps21
  go_wp2_with fail
  rw [← HwA.out]
  refine (l1New_any _ _ w _ h hE0).mono ?_
  rintro e w2 ⟨p, rfl, hC2, hE2, hpA⟩
  have hp2 := hC2.lt
  have hB2 := hB0.ext hE2
  go_wp2_with fail
  refine (l30Kept_any w w2 p hC2).mono ?_
  rintro e w3 ⟨c, rfl, ⟨aL, L, cL, N, aM, M, cM, rfl, hK4, hN⟩, hC3, hF3⟩
  unfold KVal at hK4 ⊢
  have hR := hF3.blk hB2 (by omega)
  have hE4 := hC3.base
  have r0 := hR.cell (i := 0) (v := .slice none 0 0) rfl
  have r1 := hR.cell (i := 1) (v := .int .i64 0) rfl
  have r2 := hR.cell (i := 2) (v := .slice none 0 0) rfl
  have f0 := hR.free 0
  have f1 := hR.free 1
  have f2 := hR.free 2
  have R1 := hR.set 0 (.slice aL L.length cL)
  have R2 := R1.set 1 (.int .i64 N)
  have R3 := R2.set 2 (.slice aM M.length cM)
  have hK9 := setK2 (setK2 (setK2 hK4 hR (by decide) (i := 0) (.slice aL L.length cL)) R1 (by decide) (i := 1) (.int .i64 N)) R2 (by decide) (i := 2) (.slice aM M.length cM)
  have hE9 := ((hE4.setCell (p := ⟨w.heap.size, 0, none⟩) (Nat.le_refl _) (.slice aL L.length cL)).setCell (p := ⟨w.heap.size, 1, none⟩) (Nat.le_refl _) (.int .i64 N)).setCell (p := ⟨w.heap.size, 2, none⟩) (Nat.le_refl _) (.slice aM M.length cM)
  have q0 := R3.cell (i := 0) (v := .slice aL L.length cL) rfl
  have q1 := R3.cell (i := 1) (v := .int .i64 N) rfl
  have q2 := R3.cell (i := 2) (v := .slice aM M.length cM) rfl
  clear R1 R2 R3
  go_wp2_with fail
  clear r0 r1 r2 f0 f1 f2
  generalize ((w3.setCell ⟨w.heap.size, 0, none⟩ (.slice aL L.length cL)).setCell ⟨w.heap.size, 1, none⟩ (.int .i64 N)).setCell ⟨w.heap.size, 2, none⟩ (.slice aM M.length cM) = w9 at hK9 hE9 q0 q1 q2 ⊢
  exact bodyPost_ret (v := .agg #[.slice aL L.length cL, .int .i64 N, .slice aM M.length cM]) (by simp [results, Try.results21, go_sem, q0, q1, q2]) rfl ⟨_, rfl, ⟨aL, L, cL, N, aM, M, cM, rfl, hK9.low (by omega), hN⟩, hE9⟩
end Go.Zz

/- The draw of two kept counts. -/
namespace Go.Zz
open Go.RowKit Go.Proofs
set_option maxHeartbeats 8000000
set_option maxRecDepth 20000

theorem DrawEqualKept_any (v : Value) (l : List Int) (w : World) (h : Byts w v l) :
    Calls Try.prog 24 #[v] w fun e w' => ∃ c d, e = .returned (.tuple #[c, d]) ∧ KeptO w w' c ∧ KeptO w w' d ∧ Ext w w' := by
  have hE0 := ((Ext.refl w).alloc (.cells #[.slice none 0 0, .int .i64 0, .slice none 0 0] 28)).alloc (.cells #[.slice none 0 0, .int .i64 0, .slice none 0 0] 28)
  have hA := (Blk.new w 28 #[.slice none 0 0, .int .i64 0, .slice none 0 0]).alloc (.cells #[.slice none 0 0, .int .i64 0, .slice none 0 0] 28)
  have hB := Blk.new (w.alloc (.cells #[.slice none 0 0, .int .i64 0, .slice none 0 0] 28)) 28 #[.slice none 0 0, .int .i64 0, .slice none 0 0]
  obtain ⟨wA, hwA⟩ : ∃ x, x = (w.alloc (.cells #[.slice none 0 0, .int .i64 0, .slice none 0 0] 28)).alloc (.cells #[.slice none 0 0, .int .i64 0, .slice none 0 0] 28) := ⟨_, rfl⟩
  have hsA : w.heap.size + 1 < wA.heap.size := by rw [hwA]; simp
  rw [show (w.alloc (.cells #[.slice none 0 0, .int .i64 0, .slice none 0 0] 28)).heap.size = w.heap.size + 1 by simp] at hB
  rw [← hwA] at hE0 hA hB
  have HwA := Lib.hid hwA
  clear hwA
  go_enter Try.func24, Try.ntmps24
  go_wp2_with fail
  rw [← HwA.out]
  refine (l1New_any _ _ w _ h hE0).mono ?_
  rintro e w2 ⟨p, rfl, hC, hE2, hpA⟩
  have hp2 := hC.lt
  replace hA := hA.ext hE2
  replace hB := hB.ext hE2
  go_wp2_with fail
  refine (l30Kept_any w w2 p hC).mono ?_
  rintro e w3 ⟨c, rfl, ⟨aL, L, cL, N, aM, M, cM, rfl, hP1, hN⟩, hC3, hF3⟩
  unfold KVal at hP1 ⊢
  replace hA := (hF3.blk hA (by omega)).alloc (.cells #[.slice aL L.length cL, .int .i64 N, .slice aM M.length cM] 28)
  replace hB := (hF3.blk hB (by omega)).alloc (.cells #[.slice aL L.length cL, .int .i64 N, .slice aM M.length cM] 28)
  have hs3 := hF3.size
  have hG := Blk.new w3 28 #[.slice aL L.length cL, .int .i64 N, .slice aM M.length cM]
  replace hP1 := hP1.ext ((Ext.refl w3).alloc (.cells #[.slice aL L.length cL, .int .i64 N, .slice aM M.length cM] 28))
  replace hC := hC3.alloc (.cells #[.slice aL L.length cL, .int .i64 N, .slice aM M.length cM] 28)
  obtain ⟨w4, hw4⟩ : ∃ x, x = w3.alloc (.cells #[.slice aL L.length cL, .int .i64 N, .slice aM M.length cM] 28) := ⟨_, rfl⟩
  rw [← hw4] at hG hA hB hP1 hC
  have hs4 : w3.heap.size < w4.heap.size := by rw [hw4]; simp
  have Hw4 := Lib.hid hw4
  obtain ⟨g, hg⟩ : ∃ g, g = w3.heap.size := ⟨_, rfl⟩
  have hgs : w.heap.size + 1 < g := by omega
  have hpg : p < g := by omega
  rw [← hg] at hG
  have ngA : g ≠ w.heap.size := by omega
  have ngB : g ≠ w.heap.size + 1 := by omega
  have nAB : w.heap.size ≠ w.heap.size + 1 := by omega
  have nBA : w.heap.size + 1 ≠ w.heap.size := by omega
  clear hw4 hC3 hF3 hE2 hE0
  go_wp2_with fail
  rw [← Hw4.out, ← hg]
  clear hg hs3 hs4 Hw4
  refine (l1Once_any w _ p 2 (by omega) hC).mono ?_
  rintro e w5 ⟨bb, rfl, hC5, hF5⟩
  replace hA := hF5.blk hA (by omega)
  replace hB := hF5.blk hB (by omega)
  replace hG := hF5.blk hG (by omega)
  have hKc : KeptO w2 w5 (.agg #[.slice aL L.length cL, .int .i64 N, .slice aM M.length cM]) := hF5.keptO ⟨aL, L, cL, N, aM, M, cM, rfl, hP1, hN⟩ hp2.2
  have hK5 : OwnK2 w2 w5 (.agg #[.slice aL L.length cL, .int .i64 N, .slice aM M.length cM]) L N M := by
    obtain ⟨v1, v2, e, h1, h2, hd⟩ := hP1
    exact ⟨v1, v2, e, hF5.own h1 hp2.2, hF5.own h2 hp2.2, hd⟩
  replace hP1 := hK5
  replace hC := hC5
  clear hC5 hF5 hK5 hKc
  cases bb
  rotate_left
  · go_wp2_with fail
    go_upto_region 4 with fail
    have d0 := hG.cell (i := 0) (v := .slice aL L.length cL) rfl; have d1 := hG.cell (i := 1) (v := .int .i64 N) rfl; have d2 := hG.cell (i := 2) (v := .slice aM M.length cM) rfl
    refine wp_region_held_drew (S := (fun W => W.cell? ⟨g, 0, none⟩ = some (.slice aL L.length cL) ∧ W.cell? ⟨g, 1, none⟩ = some (.int .i64 N) ∧ W.cell? ⟨g, 2, none⟩ = some (.slice aM M.length cM))) (by kernel_rfl) (by exact ⟨d0, d1, d2⟩) (fun hHeld => ?_)
    (refine takeOn (i := 0) (v := ?_) (by kernel_rfl) (by rfl) (by rfl) (by kernel_rfl) (by kernel_rfl) (by intro _ _ _ h; exact h) ?_ (by assumption) ?_); (rotate_left 1); (focus ((intro w hSw); (try dsimp only at hSw); go_simp; (try with_reducible rfl))); (try simp only [Act.put, List.setIfInBounds_toArray, List.set_cons_zero, List.set_cons_succ, List.getElem_toArray, List.getElem_cons_zero, List.getElem_cons_succ])
    (refine takeOn (i := 1) (v := ?_) (by kernel_rfl) (by rfl) (by rfl) (by kernel_rfl) (by kernel_rfl) (by intro _ _ _ h; exact h) ?_ (by assumption) ?_); (rotate_left 1); (focus ((intro w hSw); (try dsimp only at hSw); go_simp; (try with_reducible rfl))); (try simp only [Act.put, List.setIfInBounds_toArray, List.set_cons_zero, List.set_cons_succ, List.getElem_toArray, List.getElem_cons_zero, List.getElem_cons_succ])
    refine takeOne (i := 2) (by kernel_rfl) (by rfl) (by rfl) (fun K hK => ?_)
    have r0 := hA.cell (i := 0) (v := .slice none 0 0) rfl; have r1 := hA.cell (i := 1) (v := .int .i64 0) rfl; have r2 := hA.cell (i := 2) (v := .slice none 0 0) rfl; have f0 := hA.free 0; have f1 := hA.free 1; have f2 := hA.free 2; clear d0 d1 d2; go_simp; clear r0 r1 r2 f0 f1 f2; have R1 := hA.set 0 (.slice aL L.length cL); have R2 := R1.set 1 (.int .i64 N); have R3 := R2.set 2 (.slice aM M.length cM); replace hP1 := setK2 (setK2 (setK2 hP1 hA (by decide) (i := 0) (.slice aL L.length cL)) R1 (by decide) (i := 1) (.int .i64 N)) R2 (by decide) (i := 2) (.slice aM M.length cM); replace hC := ((hC.other (b := w.heap.size) (i := 0) (by omega) (by omega) (.slice aL L.length cL)).other (b := w.heap.size) (i := 1) (by omega) (by omega) (.int .i64 N)).other (b := w.heap.size) (i := 2) (by omega) (by omega) (.slice aM M.length cM); replace hB := ((hB.other (p := ⟨w.heap.size, 0, none⟩) nBA (.slice aL L.length cL)).other (p := ⟨w.heap.size, 1, none⟩) nBA (.int .i64 N)).other (p := ⟨w.heap.size, 2, none⟩) nBA (.slice aM M.length cM); replace hG := ((hG.other (p := ⟨w.heap.size, 0, none⟩) ngA (.slice aL L.length cL)).other (p := ⟨w.heap.size, 1, none⟩) ngA (.int .i64 N)).other (p := ⟨w.heap.size, 2, none⟩) ngA (.slice aM M.length cM); replace hA : Blk _ (w.heap.size) 28 #[.slice aL L.length cL, .int .i64 N, .slice aM M.length cM] := R3; clear R1 R2 R3; replace hP1 := hP1.ext ((Ext.refl _).drew); replace hA := hA.drew; replace hB := hB.drew; replace hG := hG.drew; replace hC := hC.ext ((Ext.refl _).drew); generalize (((w5.setCell ⟨w.heap.size, 0, none⟩ (.slice aL L.length cL)).setCell ⟨w.heap.size, 1, none⟩ (.int .i64 N)).setCell ⟨w.heap.size, 2, none⟩ (.slice aM M.length cM)).drew = w6 at hP1 hC hA hB hG ⊢
    refine hK.out _ _ (by exact ⟨hG.cell rfl, hG.cell rfl, hG.cell rfl⟩) (fun hHeld => ?_)
    clear hK K
    (try simp only [Act.put, List.setIfInBounds_toArray, List.set_cons_zero, List.set_cons_succ, List.getElem_toArray, List.getElem_cons_zero, List.getElem_cons_succ])
    refine takeOne (i := 3) (by kernel_rfl) (by rfl) (by rfl) (fun K hK => ?_)
    have r0 := hB.cell (i := 0) (v := .slice none 0 0) rfl; have r1 := hB.cell (i := 1) (v := .int .i64 0) rfl; have r2 := hB.cell (i := 2) (v := .slice none 0 0) rfl; have f0 := hB.free 0; have f1 := hB.free 1; have f2 := hB.free 2; go_simp; clear r0 r1 r2 f0 f1 f2; have R1 := hB.set 0 (.slice aL L.length cL); have R2 := R1.set 1 (.int .i64 N); have R3 := R2.set 2 (.slice aM M.length cM); replace hP1 := setK2 (setK2 (setK2 hP1 hB (by decide) (i := 0) (.slice aL L.length cL)) R1 (by decide) (i := 1) (.int .i64 N)) R2 (by decide) (i := 2) (.slice aM M.length cM); replace hC := ((hC.other (b := (w.heap.size + 1)) (i := 0) (by omega) (by omega) (.slice aL L.length cL)).other (b := (w.heap.size + 1)) (i := 1) (by omega) (by omega) (.int .i64 N)).other (b := (w.heap.size + 1)) (i := 2) (by omega) (by omega) (.slice aM M.length cM); replace hA := ((hA.other (p := ⟨(w.heap.size + 1), 0, none⟩) nAB (.slice aL L.length cL)).other (p := ⟨(w.heap.size + 1), 1, none⟩) nAB (.int .i64 N)).other (p := ⟨(w.heap.size + 1), 2, none⟩) nAB (.slice aM M.length cM); replace hG := ((hG.other (p := ⟨(w.heap.size + 1), 0, none⟩) ngB (.slice aL L.length cL)).other (p := ⟨(w.heap.size + 1), 1, none⟩) ngB (.int .i64 N)).other (p := ⟨(w.heap.size + 1), 2, none⟩) ngB (.slice aM M.length cM); replace hB : Blk _ ((w.heap.size + 1)) 28 #[.slice aL L.length cL, .int .i64 N, .slice aM M.length cM] := R3; clear R1 R2 R3; generalize ((w6.setCell ⟨(w.heap.size + 1), 0, none⟩ (.slice aL L.length cL)).setCell ⟨(w.heap.size + 1), 1, none⟩ (.int .i64 N)).setCell ⟨(w.heap.size + 1), 2, none⟩ (.slice aM M.length cM) = w7 at hP1 hC hB hA hG ⊢
    refine hK.out _ _ (by exact ⟨hG.cell rfl, hG.cell rfl, hG.cell rfl⟩) (fun hHeld => ?_)
    clear hK K
    (try simp only [Act.put, List.setIfInBounds_toArray, List.set_cons_zero, List.set_cons_succ, List.getElem_toArray, List.getElem_cons_zero, List.getElem_cons_succ])
    refine wpAnyH_done (by kernel_rfl) ?_ _
    go_wp2_with fail
    have q0 := hA.cell (i := 0) rfl
    have q1 := hA.cell (i := 1) rfl
    have q2 := hA.cell (i := 2) rfl
    have q3 := hB.cell (i := 0) rfl
    have q4 := hB.cell (i := 1) rfl
    have q5 := hB.cell (i := 2) rfl
    exact bodyPost_ret (v := .tuple #[.agg #[.slice aL L.length cL, .int .i64 N, .slice aM M.length cM], .agg #[.slice aL L.length cL, .int .i64 N, .slice aM M.length cM]]) (by simp [results, Try.results24, go_sem, q0, q1, q2, q3, q4, q5]) rfl ⟨_, _, rfl, ⟨aL, L, cL, N, aM, M, cM, rfl, hP1.low (by omega), hN⟩, ⟨aL, L, cL, N, aM, M, cM, rfl, hP1.low (by omega), hN⟩, hC.base⟩
  · go_wp2_with fail
    go_upto_region 5 with fail
    replace hA := hA.drew
    replace hB := hB.drew
    replace hG := hG.drew
    replace hP1 := hP1.ext ((Ext.refl w5).drew)
    replace hC := hC.ext ((Ext.refl w5).drew)
    have d0 := hG.cell (i := 0) (v := .slice aL L.length cL) rfl; have d1 := hG.cell (i := 1) (v := .int .i64 N) rfl; have d2 := hG.cell (i := 2) (v := .slice aM M.length cM) rfl
    have hz : w.heap.size ≤ w5.drew.heap.size := Nat.le_of_lt hA.lt
    refine wp_region_held_drew (S := (fun W => Cur w W p ∧ W.cell? ⟨g, 0, none⟩ = some (.slice aL L.length cL) ∧ W.cell? ⟨g, 1, none⟩ = some (.int .i64 N) ∧ W.cell? ⟨g, 2, none⟩ = some (.slice aM M.length cM))) (by kernel_rfl) (by exact ⟨hC, d0, d1, d2⟩) (fun hHeld => ?_)
    (refine takeOn (i := 0) (v := ?_) (by kernel_rfl) (by rfl) (by rfl) (by kernel_rfl) (by kernel_rfl) (by intro _ _ _ h; exact h) ?_ (by assumption) ?_); (rotate_left 1); (focus ((intro w hSw); (try dsimp only at hSw); go_simp; (try with_reducible rfl))); (try simp only [Act.put, List.setIfInBounds_toArray, List.set_cons_zero, List.set_cons_succ, List.getElem_toArray, List.getElem_cons_zero, List.getElem_cons_succ])
    (refine takeOn (i := 1) (v := ?_) (by kernel_rfl) (by rfl) (by rfl) (by kernel_rfl) (by kernel_rfl) (by intro _ _ _ h; exact h) ?_ (by assumption) ?_); (rotate_left 1); (focus ((intro w hSw); (try dsimp only at hSw); go_simp; (try with_reducible rfl))); (try simp only [Act.put, List.setIfInBounds_toArray, List.set_cons_zero, List.set_cons_succ, List.getElem_toArray, List.getElem_cons_zero, List.getElem_cons_succ])
    refine takeOne (i := 2) (by kernel_rfl) (by rfl) (by rfl) (fun K hK => ?_)
    clear d0 d1 d2; go_simp; (go_at_call 75; (with_reducible refine Calls.mono (l30Kept_any w _ p hC) ?_); rintro e w6 ⟨c, rfl, ⟨atL, tL, ctL, tN, atM, tM, ctM, rfl, hP2, htN⟩, hC6, hF6⟩; unfold KVal at hP2; unfold KVal; replace hA := hF6.blk hA (by omega); replace hB := hF6.blk hB (by omega); replace hG := hF6.blk hG (by omega); replace hP1 : OwnK2 w2 w6 (.agg #[.slice aL L.length cL, .int .i64 N, .slice aM M.length cM]) L N M := (by obtain ⟨v1, v2, e, h1, h2, hd⟩ := hP1; exact ⟨v1, v2, e, hF6.own h1 hp2.2, hF6.own h2 hp2.2, hd⟩); replace hC := hC6; clear hC6 hF6)
    refine hK.out _ _ (by exact ⟨hC, hG.cell rfl, hG.cell rfl, hG.cell rfl⟩) (fun hHeld => ?_)
    clear hK K
    (try simp only [Act.put, List.setIfInBounds_toArray, List.set_cons_zero, List.set_cons_succ, List.getElem_toArray, List.getElem_cons_zero, List.getElem_cons_succ])
    refine takeOne (i := 3) (by kernel_rfl) (by rfl) (by rfl) (fun K hK => ?_)
    have r0 := hA.cell (i := 0) (v := .slice none 0 0) rfl; have r1 := hA.cell (i := 1) (v := .int .i64 0) rfl; have r2 := hA.cell (i := 2) (v := .slice none 0 0) rfl; have f0 := hA.free 0; have f1 := hA.free 1; have f2 := hA.free 2; go_simp; clear r0 r1 r2 f0 f1 f2; have R1 := hA.set 0 (.slice aL L.length cL); have R2 := R1.set 1 (.int .i64 N); have R3 := R2.set 2 (.slice aM M.length cM); replace hP1 := setK2 (setK2 (setK2 hP1 hA (by decide) (i := 0) (.slice aL L.length cL)) R1 (by decide) (i := 1) (.int .i64 N)) R2 (by decide) (i := 2) (.slice aM M.length cM); replace hP2 := setK2 (setK2 (setK2 hP2 hA (by decide) (i := 0) (.slice aL L.length cL)) R1 (by decide) (i := 1) (.int .i64 N)) R2 (by decide) (i := 2) (.slice aM M.length cM); replace hC := ((hC.other (b := w.heap.size) (i := 0) (by omega) (by omega) (.slice aL L.length cL)).other (b := w.heap.size) (i := 1) (by omega) (by omega) (.int .i64 N)).other (b := w.heap.size) (i := 2) (by omega) (by omega) (.slice aM M.length cM); replace hB := ((hB.other (p := ⟨w.heap.size, 0, none⟩) nBA (.slice aL L.length cL)).other (p := ⟨w.heap.size, 1, none⟩) nBA (.int .i64 N)).other (p := ⟨w.heap.size, 2, none⟩) nBA (.slice aM M.length cM); replace hG := ((hG.other (p := ⟨w.heap.size, 0, none⟩) ngA (.slice aL L.length cL)).other (p := ⟨w.heap.size, 1, none⟩) ngA (.int .i64 N)).other (p := ⟨w.heap.size, 2, none⟩) ngA (.slice aM M.length cM); replace hA : Blk _ (w.heap.size) 28 #[.slice aL L.length cL, .int .i64 N, .slice aM M.length cM] := R3; clear R1 R2 R3; generalize ((w6.setCell ⟨w.heap.size, 0, none⟩ (.slice aL L.length cL)).setCell ⟨w.heap.size, 1, none⟩ (.int .i64 N)).setCell ⟨w.heap.size, 2, none⟩ (.slice aM M.length cM) = w7 at hP1 hP2 hC hA hB hG ⊢
    refine hK.out _ _ (by exact ⟨hC, hG.cell rfl, hG.cell rfl, hG.cell rfl⟩) (fun hHeld => ?_)
    clear hK K
    (try simp only [Act.put, List.setIfInBounds_toArray, List.set_cons_zero, List.set_cons_succ, List.getElem_toArray, List.getElem_cons_zero, List.getElem_cons_succ])
    refine takeOne (i := 4) (by kernel_rfl) (by rfl) (by rfl) (fun K hK => ?_)
    have r0 := hB.cell (i := 0) (v := .slice none 0 0) rfl; have r1 := hB.cell (i := 1) (v := .int .i64 0) rfl; have r2 := hB.cell (i := 2) (v := .slice none 0 0) rfl; have f0 := hB.free 0; have f1 := hB.free 1; have f2 := hB.free 2; go_simp; clear r0 r1 r2 f0 f1 f2; have R1 := hB.set 0 (.slice atL tL.length ctL); have R2 := R1.set 1 (.int .i64 tN); have R3 := R2.set 2 (.slice atM tM.length ctM); replace hP1 := setK2 (setK2 (setK2 hP1 hB (by decide) (i := 0) (.slice atL tL.length ctL)) R1 (by decide) (i := 1) (.int .i64 tN)) R2 (by decide) (i := 2) (.slice atM tM.length ctM); replace hP2 := setK2 (setK2 (setK2 hP2 hB (by decide) (i := 0) (.slice atL tL.length ctL)) R1 (by decide) (i := 1) (.int .i64 tN)) R2 (by decide) (i := 2) (.slice atM tM.length ctM); replace hC := ((hC.other (b := (w.heap.size + 1)) (i := 0) (by omega) (by omega) (.slice atL tL.length ctL)).other (b := (w.heap.size + 1)) (i := 1) (by omega) (by omega) (.int .i64 tN)).other (b := (w.heap.size + 1)) (i := 2) (by omega) (by omega) (.slice atM tM.length ctM); replace hA := ((hA.other (p := ⟨(w.heap.size + 1), 0, none⟩) nAB (.slice atL tL.length ctL)).other (p := ⟨(w.heap.size + 1), 1, none⟩) nAB (.int .i64 tN)).other (p := ⟨(w.heap.size + 1), 2, none⟩) nAB (.slice atM tM.length ctM); replace hG := ((hG.other (p := ⟨(w.heap.size + 1), 0, none⟩) ngB (.slice atL tL.length ctL)).other (p := ⟨(w.heap.size + 1), 1, none⟩) ngB (.int .i64 tN)).other (p := ⟨(w.heap.size + 1), 2, none⟩) ngB (.slice atM tM.length ctM); replace hB : Blk _ ((w.heap.size + 1)) 28 #[.slice atL tL.length ctL, .int .i64 tN, .slice atM tM.length ctM] := R3; clear R1 R2 R3; generalize ((w7.setCell ⟨(w.heap.size + 1), 0, none⟩ (.slice atL tL.length ctL)).setCell ⟨(w.heap.size + 1), 1, none⟩ (.int .i64 tN)).setCell ⟨(w.heap.size + 1), 2, none⟩ (.slice atM tM.length ctM) = w8 at hP1 hP2 hC hB hA hG ⊢
    refine hK.out _ _ (by exact ⟨hC, hG.cell rfl, hG.cell rfl, hG.cell rfl⟩) (fun hHeld => ?_)
    clear hK K
    (try simp only [Act.put, List.setIfInBounds_toArray, List.set_cons_zero, List.set_cons_succ, List.getElem_toArray, List.getElem_cons_zero, List.getElem_cons_succ])
    refine wpAnyH_done (by kernel_rfl) ?_ _
    go_wp2_with fail
    have q0 := hA.cell (i := 0) rfl
    have q1 := hA.cell (i := 1) rfl
    have q2 := hA.cell (i := 2) rfl
    have q3 := hB.cell (i := 0) rfl
    have q4 := hB.cell (i := 1) rfl
    have q5 := hB.cell (i := 2) rfl
    exact bodyPost_ret (v := .tuple #[.agg #[.slice aL L.length cL, .int .i64 N, .slice aM M.length cM], .agg #[.slice atL tL.length ctL, .int .i64 tN, .slice atM tM.length ctM]]) (by simp [results, Try.results24, go_sem, q0, q1, q2, q3, q4, q5]) rfl ⟨_, _, rfl, ⟨aL, L, cL, N, aM, M, cM, rfl, hP1.low (by omega), hN⟩, ⟨atL, tL, ctL, tN, atM, tM, ctM, rfl, hP2.low (by omega), htN⟩, hC.base⟩
end Go.Zz

/- Energies and sums of kept counts. -/
namespace Go.Zz
open Go.RowKit Go.Proofs
set_option maxHeartbeats 400000

def enF (l : List Int) (a b : Int) : Int := if isSetB l a && isSetB l b then sqTo (tabN l a.toNat b.toNat) (ord l) else -1
theorem enF_no {l : List Int} {a b : Int} (h : (isSetB l a && isSetB l b) = false) : enF l a b = -1 := by unfold enF; rw [h]; rfl
theorem enF_yes {l : List Int} {a b : Nat} (h : (isSetB l a && isSetB l b) = true) : enF l a b = sqTo (tabN l a b) (ord l) := by unfold enF; rw [if_pos h]; rfl
theorem EnergyOf_any (v : Value) (l : List Int) (a b : Int) (w : World) (h : Ints w v l) :
    Calls Try.prog 70 #[.agg #[v], .int .i64 a, .int .i64 b] w fun e w' => e = .returned (.int .i64 (enF l a b)) ∧ Ext w w' := by
  obtain ⟨wb, hwb⟩ : ∃ wb, wb = w.alloc (.cells #[v] 26) := ⟨_, rfl⟩
  have hE0 := (Ext.refl w).alloc (.cells #[v] 26)
  have hb := box_cell w v 26
  rw [← hwb] at hE0 hb
  have hg : ∀ W, Ext wb W → Ints W v l := fun W hW => h.ext (hE0.trans hW)
  have hE := Ext.refl wb
  have Hsz : Hid (w.heap.size + 1 = wb.heap.size) := Lib.hid (by rw [hwb]; simp [go_sem])
  have Hwb := Lib.hid hwb
  clear hwb h
  have hbx := hb wb hE
  have har := areF_two l a b
  cases hs : (isSetB l a && isSetB l b)
  · have Hs := Lib.hid (enF_no hs)
    rw [hs] at har
    clear hs
    go_enter Try.func70, Try.ntmps70
    go_wp2_with fail
    rw [← Hwb.out]; try rw [Hsz.out]
    go_wp2_with (first | (go_at_call 88; refine Calls.mono (areSets_val _ _ _ _ _ (hg _ (by repeat (first | assumption | exact Ext.refl _ | (apply And.left; assumption) | apply Ext.drew | apply Ext.alloc))) (ints_two _ _ _ _) har) ?_; rintro e w' ⟨rfl, hE'⟩; replace hE := hE.trans (Ext.trans (by repeat (first | assumption | exact Ext.refl _ | (apply And.left; assumption) | apply Ext.drew | apply Ext.alloc)) hE'); clear hE'))
    go_ret
    exact ⟨ret_int Hs.out.symm, hE0.trans hE⟩
  · obtain ⟨h1, h2⟩ := Bool.and_eq_true_iff.1 hs
    obtain ⟨a, rfl, -, ha, hgr⟩ := isSetB_nat h1
    obtain ⟨b, rfl, -, hb', -⟩ := isSetB_nat h2
    have Hs := Lib.hid (enF_yes hs)
    have Ht := Lib.hid (tabF_N hs)
    rw [hs] at har
    have Hgr := Lib.hid hgr
    have hob := ord_bd hgr
    clear hs hgr h1 h2
    go_enter Try.func70, Try.ntmps70
    go_wp2_with fail
    rw [← Hwb.out]; try rw [Hsz.out]
    go_wp2_with (first | (go_at_call 88; refine Calls.mono (areSets_val _ _ _ _ _ (hg _ (by repeat (first | assumption | exact Ext.refl _ | (apply And.left; assumption) | apply Ext.drew | apply Ext.alloc))) (ints_two _ _ _ _) har) ?_; rintro e w' ⟨rfl, hE'⟩; replace hE := hE.trans (Ext.trans (by repeat (first | assumption | exact Ext.refl _ | (apply And.left; assumption) | apply Ext.drew | apply Ext.alloc)) hE'); clear hE'))
    refine (SumTable_any _ _ _ _ _ (hg _ hE)).mono ?_
    rw [Ht.out]
    rintro e w1 ⟨v1, rfl, hL, hE1⟩
    have hLs := hL.ints
    obtain ⟨ao, c, adr, rfl, hlen, hadr, hcell⟩ := hLs.op
    have hix := ints_index (c := c) elI szI hadr
    rw [tabN_len] at hcell hlen hix ⊢
    clear hadr hL hLs
    have hEb := hE.trans hE1
    clear hE hE1
    have hE := Ext.refl w1
    go_wp2_with fail
    go_loopw [7, 21] (fun nv i wr => ∃ k : Nat, k ≤ ord l ∧ i = .int .i64 k ∧ nv = .int .i64 (sqTo (tabN l a b) k) ∧ Ext w1 wr) (fun _ i _ => ord l - (intOf i).toNat)
    case atStart => exact ⟨0, by omega, rfl, rfl, hE⟩
    case round =>
      clear hE
      obtain ⟨k, hk, rfl, rfl, hE⟩ := hrel
      by_cases hlt : k < ord l
      · have hck := hcell k _ hlt hE
        have hsq := Lib.hid (sqTo_succ (tabN l a b) k)
        have hb1 := sqTo_bd Hgr.out a b k
        obtain ⟨hb2, hb3⟩ := tabN_bd Hgr.out a b k
        obtain ⟨hb4, hb5⟩ := sq_bd hb2 hb3
        go_wp2_with fail
        go_roundw
        case rel => exact ⟨k + 1, by omega, by go_num, by rw [hsq.out], hE⟩
        case measure => (simp [intOf]; omega)
      · have hkl : k = ord l := by omega
        subst hkl
        go_wp2_with fail
        go_ret
        exact ⟨ret_int (by rw [Hs.out]), hE0.trans (hEb.trans hE)⟩
theorem EnergyOfKept_any (c : Value) (l m : List Int) (n : Int) (w : World) (h : IsK w c l n m) :
    Calls Try.prog 15 #[c] w fun e w' => e = .returned (.int .i64 (engF l n m)) ∧ Ext w w' := by
  obtain ⟨v, u, rfl, hv, hu⟩ := h
  obtain ⟨wb, hwb⟩ : ∃ wb, wb = w.alloc (.cells #[v, .int .i64 n, u] 28) := ⟨_, rfl⟩
  have hE0 : Ext w wb := by rw [hwb]; exact (Ext.refl _).alloc _
  have B0 : Blk wb w.heap.size 28 #[v, .int .i64 n, u] := by rw [hwb]; exact Blk.new _ _ _
  have b0 : ∀ W, Ext wb W → W.cell? ⟨w.heap.size, 0, none⟩ = some v := fun W hW => (B0.ext hW).cell (i := 0) rfl
  have b1 : ∀ W, Ext wb W → W.cell? ⟨w.heap.size, 1, none⟩ = some (.int .i64 n) := fun W hW => (B0.ext hW).cell (i := 1) rfl
  have b2 : ∀ W, Ext wb W → W.cell? ⟨w.heap.size, 2, none⟩ = some u := fun W hW => (B0.ext hW).cell (i := 2) rfl
  have hg : ∀ W, Ext wb W → Ints W v l := fun W hW => hv.ext (hE0.trans hW)
  have hg2 : ∀ W, Ext wb W → Ints W u m := fun W hW => hu.ext (hE0.trans hW)
  have hE := Ext.refl wb
  have Hsz : Hid (w.heap.size + 1 = wb.heap.size) := Lib.hid (by rw [hwb]; simp [go_sem])
  have Hwb := Lib.hid hwb
  clear hwb hv hu B0
  cases hk : keptB l n m
  ·
    go_enter Try.func15, Try.ntmps15
    go_wp2_with fail
    rw [← Hwb.out]
    go_wp2_with (first | (go_at_call 14; refine (IsKept_val _ _ _ _ _ (⟨_, _, rfl, hg _ hE, hg2 _ hE⟩) (hk)).mono ?_; rintro e w' ⟨rfl, hE'⟩; replace hE := hE.trans hE'; clear hE'))
    go_ret
    exact ⟨ret_int (engF_no hk).symm, hE0.trans hE⟩
  · have Hs := Lib.hid (engF_yes hk)
    have Hk := Lib.hid (keptB_nat hk)
    obtain ⟨a, rfl, -, h2, hgr, hm, hs⟩ := keptB_nat hk
    have He : Hid (enF l a a = engF l a m) := Lib.hid (by rw [Hs.out, enF_yes (by rw [hs]; rfl), hm])
    clear hm hgr hs Hk
    go_enter Try.func15, Try.ntmps15
    go_wp2_with fail
    rw [← Hwb.out]
    go_wp2_with (first | (go_at_call 14; refine (IsKept_val _ _ _ _ _ (⟨_, _, rfl, hg _ hE, hg2 _ hE⟩) (hk)).mono ?_; rintro e w' ⟨rfl, hE'⟩; replace hE := hE.trans hE'; clear hE'))
    refine (EnergyOf_any _ _ _ _ _ (hg _ hE)).mono ?_
    rw [He.out]
    rintro e w1 ⟨rfl, hE1⟩
    go_wp2_with fail
    go_ret
    exact ⟨rfl, hE0.trans (hE.trans hE1)⟩
theorem SumsOfKept_any (c : Value) (l m : List Int) (n : Int) (w : World) (h : IsK w c l n m) :
    Calls Try.prog 17 #[c] w fun e w' => e = .returned (.int .i64 (sukF l n m)) ∧ Ext w w' := by
  obtain ⟨v, u, rfl, hv, hu⟩ := h
  obtain ⟨wb, hwb⟩ : ∃ wb, wb = w.alloc (.cells #[v, .int .i64 n, u] 28) := ⟨_, rfl⟩
  have hE0 : Ext w wb := by rw [hwb]; exact (Ext.refl _).alloc _
  have B0 : Blk wb w.heap.size 28 #[v, .int .i64 n, u] := by rw [hwb]; exact Blk.new _ _ _
  have b0 : ∀ W, Ext wb W → W.cell? ⟨w.heap.size, 0, none⟩ = some v := fun W hW => (B0.ext hW).cell (i := 0) rfl
  have b1 : ∀ W, Ext wb W → W.cell? ⟨w.heap.size, 1, none⟩ = some (.int .i64 n) := fun W hW => (B0.ext hW).cell (i := 1) rfl
  have b2 : ∀ W, Ext wb W → W.cell? ⟨w.heap.size, 2, none⟩ = some u := fun W hW => (B0.ext hW).cell (i := 2) rfl
  have hg : ∀ W, Ext wb W → Ints W v l := fun W hW => hv.ext (hE0.trans hW)
  have hg2 : ∀ W, Ext wb W → Ints W u m := fun W hW => hu.ext (hE0.trans hW)
  have hE := Ext.refl wb
  have Hsz : Hid (w.heap.size + 1 = wb.heap.size) := Lib.hid (by rw [hwb]; simp [go_sem])
  have Hwb := Lib.hid hwb
  clear hwb hv hu B0
  cases hk : keptB l n m
  ·
    go_enter Try.func17, Try.ntmps17
    go_wp2_with fail
    rw [← Hwb.out]
    go_wp2_with (first | (go_at_call 14; refine (IsKept_val _ _ _ _ _ (⟨_, _, rfl, hg _ hE, hg2 _ hE⟩) (hk)).mono ?_; rintro e w' ⟨rfl, hE'⟩; replace hE := hE.trans hE'; clear hE'))
    go_ret
    exact ⟨ret_int (sukF_no hk).symm, hE0.trans hE⟩
  · obtain ⟨a, rfl, -, h2, hgr, -, -⟩ := keptB_nat hk
    have Hs := Lib.hid (sukF_yes hk)
    have Hgr := Lib.hid hgr
    clear hgr
    go_enter Try.func17, Try.ntmps17
    go_wp2_with fail
    rw [← Hwb.out]
    go_wp2_with (first | (go_at_call 14; refine (IsKept_val _ _ _ _ _ (⟨_, _, rfl, hg _ hE, hg2 _ hE⟩) (hk)).mono ?_; rintro e w' ⟨rfl, hE'⟩; replace hE := hE.trans hE'; clear hE') | (go_at_call 72; refine (sum_any _ _ _ _ _ (hg _ hE) (Hgr) (h2) (h2)).mono ?_; rintro e w' ⟨rfl, hE'⟩; replace hE := hE.trans hE'; clear hE'))
    go_ret
    exact ⟨ret_int Hs.out.symm, hE0.trans hE⟩
theorem sEnergyOfKept_any (c : Value) (l m : List Int) (n : Int) (w : World) (h : IsK w c l n m) :
    Calls Try.prog 26 #[c] w fun e w' => e = .returned (.int .i64 (engF l n m)) ∧ Ext w w' := by
  obtain ⟨v, u, rfl, hv, hu⟩ := h
  obtain ⟨wb, hwb⟩ : ∃ wb, wb = w.alloc (.cells #[v, .int .i64 n, u] 28) := ⟨_, rfl⟩
  have hE0 : Ext w wb := by rw [hwb]; exact (Ext.refl _).alloc _
  have B0 : Blk wb w.heap.size 28 #[v, .int .i64 n, u] := by rw [hwb]; exact Blk.new _ _ _
  have b0 : ∀ W, Ext wb W → W.cell? ⟨w.heap.size, 0, none⟩ = some v := fun W hW => (B0.ext hW).cell (i := 0) rfl
  have b1 : ∀ W, Ext wb W → W.cell? ⟨w.heap.size, 1, none⟩ = some (.int .i64 n) := fun W hW => (B0.ext hW).cell (i := 1) rfl
  have b2 : ∀ W, Ext wb W → W.cell? ⟨w.heap.size, 2, none⟩ = some u := fun W hW => (B0.ext hW).cell (i := 2) rfl
  have hg : ∀ W, Ext wb W → Ints W v l := fun W hW => hv.ext (hE0.trans hW)
  have hg2 : ∀ W, Ext wb W → Ints W u m := fun W hW => hu.ext (hE0.trans hW)
  have hE := Ext.refl wb
  have Hsz : Hid (w.heap.size + 1 = wb.heap.size) := Lib.hid (by rw [hwb]; simp [go_sem])
  have Hwb := Lib.hid hwb
  clear hwb hv hu B0
  cases hk : keptB l n m
  ·
    go_enter Try.func26, Try.ntmps26
    go_wp2_with fail
    rw [← Hwb.out]
    go_wp2_with (first | (go_at_call 25; refine (sIsKept_val _ _ _ _ _ (⟨_, _, rfl, hg _ hE, hg2 _ hE⟩) (hk)).mono ?_; rintro e w' ⟨rfl, hE'⟩; replace hE := hE.trans hE'; clear hE'))
    go_ret
    exact ⟨ret_int (engF_no hk).symm, hE0.trans hE⟩
  · have Hs := Lib.hid (engF_yes hk)
    obtain ⟨a, rfl, -, h2, hgr, hm, -⟩ := keptB_nat hk
    have hob := ord_bd hgr
    have Hgr := Lib.hid hgr
    obtain ⟨ao, cU, adr, rfl, hlen, hadr, hcell⟩ := (hg2 wb hE).op
    have hix := ints_index (c := cU) elI szI hadr
    have hml : m.length = ord l := by rw [hm, tabN_len]
    have Hm := Lib.hid hm
    rw [hml] at hcell hlen hix b2 Hwb hg2 ⊢
    clear hadr hm hgr hml
    go_enter Try.func26, Try.ntmps26
    go_wp2_with fail
    rw [← Hwb.out]
    go_wp2_with (first | (go_at_call 25; refine (sIsKept_val _ _ _ _ _ (⟨_, _, rfl, hg _ hE, hg2 _ hE⟩) (hk)).mono ?_; rintro e w' ⟨rfl, hE'⟩; replace hE := hE.trans hE'; clear hE'))
    go_loopw [3, 4] (fun nv i wr => ∃ k : Nat, k ≤ ord l ∧ i = .int .i64 k ∧ nv = .int .i64 (sqTo m k) ∧ Ext wb wr) (fun _ i _ => ord l - (intOf i).toNat)
    case atStart => exact ⟨0, by omega, rfl, rfl, hE⟩
    case round =>
      clear hE
      obtain ⟨k, hkl, rfl, rfl, hE⟩ := hrel
      by_cases hlt : k < ord l
      · have hck := fun U => hcell k _ hlt (lat_ext wb U)
        have z2 := fun U => b2 _ (lat_ext wb U)
        have hsq := Lib.hid (sqTo_succ m k)
        have hb1 : 0 ≤ sqTo m k ∧ sqTo m k ≤ 331776 * k := by rw [Hm.out]; exact sqTo_bd Hgr.out a a k
        have hb2 : 0 ≤ nth m k ∧ nth m k ≤ 576 := by rw [Hm.out]; exact tabN_bd Hgr.out a a k
        obtain ⟨hb4, hb5⟩ := sq_bd hb2.1 hb2.2
        go_wp2_with fail
        (refine wp_region_lat (wb) (by kernel_rfl) (by kernel_rfl) hE ?_); (repeat (go_big_quiet_step (first | fail))); (refine wpQuiet_nil ?_); (intro W hE'); (replace hE := lat_of hE'); (clear hE')
        go_wp2_with fail
        go_roundw
        case rel => exact ⟨k + 1, by omega, by go_num, by rw [hsq.out], hE⟩
        case measure => (simp [intOf]; omega)
      · have hkl : k = ord l := by omega
        subst hkl
        go_wp2_with fail
        go_ret
        exact ⟨ret_int (by rw [Hs.out]), hE0.trans hE⟩
theorem sSumsOfKept_any (c : Value) (l m : List Int) (n : Int) (w : World) (h : IsK w c l n m) :
    Calls Try.prog 27 #[c] w fun e w' => e = .returned (.int .i64 (sukF l n m)) ∧ Ext w w' := by
  obtain ⟨v, u, rfl, hv, hu⟩ := h
  obtain ⟨wb, hwb⟩ : ∃ wb, wb = w.alloc (.cells #[v, .int .i64 n, u] 28) := ⟨_, rfl⟩
  have hE0 : Ext w wb := by rw [hwb]; exact (Ext.refl _).alloc _
  have B0 : Blk wb w.heap.size 28 #[v, .int .i64 n, u] := by rw [hwb]; exact Blk.new _ _ _
  have b0 : ∀ W, Ext wb W → W.cell? ⟨w.heap.size, 0, none⟩ = some v := fun W hW => (B0.ext hW).cell (i := 0) rfl
  have b1 : ∀ W, Ext wb W → W.cell? ⟨w.heap.size, 1, none⟩ = some (.int .i64 n) := fun W hW => (B0.ext hW).cell (i := 1) rfl
  have b2 : ∀ W, Ext wb W → W.cell? ⟨w.heap.size, 2, none⟩ = some u := fun W hW => (B0.ext hW).cell (i := 2) rfl
  have hg : ∀ W, Ext wb W → Ints W v l := fun W hW => hv.ext (hE0.trans hW)
  have hg2 : ∀ W, Ext wb W → Ints W u m := fun W hW => hu.ext (hE0.trans hW)
  have hE := Ext.refl wb
  have Hsz : Hid (w.heap.size + 1 = wb.heap.size) := Lib.hid (by rw [hwb]; simp [go_sem])
  have Hwb := Lib.hid hwb
  clear hwb hv hu B0
  cases hk : keptB l n m
  ·
    go_enter Try.func27, Try.ntmps27
    go_wp2_with fail
    rw [← Hwb.out]
    go_wp2_with (first | (go_at_call 25; refine (sIsKept_val _ _ _ _ _ (⟨_, _, rfl, hg _ hE, hg2 _ hE⟩) (hk)).mono ?_; rintro e w' ⟨rfl, hE'⟩; replace hE := hE.trans hE'; clear hE'))
    go_ret
    exact ⟨ret_int (sukF_no hk).symm, hE0.trans hE⟩
  · obtain ⟨a, rfl, -, h2, hgr, hm, -⟩ := keptB_nat hk
    have Hs : Hid (sukF l a m = (posTo m (ord l) : Int)) := Lib.hid (by rw [sukF_yes hk, hm, posTo_tab hgr])
    have hob := ord_bd hgr
    have Hgr := Lib.hid hgr
    obtain ⟨ao, cU, adr, rfl, hlen, hadr, hcell⟩ := (hg2 wb hE).op
    have hix := ints_index (c := cU) elI szI hadr
    have hml : m.length = ord l := by rw [hm, tabN_len]
    have Hm := Lib.hid hm
    rw [hml] at hcell hlen hix b2 Hwb hg2 ⊢
    clear hadr hm hgr hml
    go_enter Try.func27, Try.ntmps27
    go_wp2_with fail
    rw [← Hwb.out]
    go_wp2_with (first | (go_at_call 25; refine (sIsKept_val _ _ _ _ _ (⟨_, _, rfl, hg _ hE, hg2 _ hE⟩) (hk)).mono ?_; rintro e w' ⟨rfl, hE'⟩; replace hE := hE.trans hE'; clear hE'))
    go_loopw [3, 4] (fun nv i wr => ∃ k : Nat, k ≤ ord l ∧ i = .int .i64 k ∧ nv = .int .i64 (posTo m k : Nat) ∧ Ext wb wr) (fun _ i _ => ord l - (intOf i).toNat)
    case atStart => exact ⟨0, by omega, rfl, rfl, hE⟩
    case round =>
      clear hE
      obtain ⟨k, hkl, rfl, rfl, hE⟩ := hrel
      by_cases hlt : k < ord l
      · have hck := hcell k _ hlt hE
        have hp := posTo_lt m k
        have hp2 : posTo m k < 2 ^ 24 := Nat.lt_of_lt_of_le hp (Nat.pow_le_pow_right (by omega) (by omega))
        have hs1 := ishl_one (n := k) (by omega)
        have hs2 := ior_pw hp2 (show k < 24 by omega)
        clear hp
        by_cases hq : 0 < nth m k
        · have Hp := Lib.hid (posTo_yes hq)
          go_wp2_with fail
          go_roundw
          case rel => exact ⟨k + 1, by omega, by go_num, by rw [Hp.out], hE⟩
          case measure => (simp [intOf]; omega)
        · have Hp := Lib.hid (posTo_no hq)
          go_wp2_with fail
          go_roundw
          case rel => exact ⟨k + 1, by omega, by go_num, by rw [Hp.out], hE⟩
          case measure => (simp [intOf]; omega)
      · have hkl : k = ord l := by omega
        subst hkl
        go_wp2_with fail
        go_ret
        exact ⟨ret_int (by rw [Hs.out]), hE0.trans hE⟩
end Go.Zz

/- Small functions that the laws call: sizes of sets, sums; equal lists, sums of lists, bytes by index. -/
namespace Go.Zz
open Go.RowKit Go.Proofs
set_option maxHeartbeats 2000000
set_option maxRecDepth 8000

theorem big_any (v : Value) (l : List Int) (w : World) (h : Byts w v l) :
    Calls Try.prog 7 #[v] w fun e w' => ∃ b, e = .returned (.bool b) ∧ Ext w w' := by
  obtain ⟨ao, c, rfl, -⟩ := h
  go_enter Try.func7, Try.ntmps7
  go_wp2_with fail
  go_ret
  exact ⟨_, rfl, Ext.refl _⟩
def csF (l : List Int) (a : Int) : Int := if isSetB l a then (cnt a.toNat : Int) else -1
theorem csF_no {l : List Int} {a : Int} (h : isSetB l a = false) : csF l a = -1 := by unfold csF; rw [h]; rfl
theorem csF_yes {l : List Int} {n : Nat} (h : isSetB l n = true) : csF l n = cnt n := by unfold csF; rw [if_pos h]; rfl
theorem sCountSet_any (v : Value) (l : List Int) (a : Int) (w : World) (h : Ints w v l) :
    Calls Try.prog 37 #[.agg #[v], .int .i64 a] w fun e w' => e = .returned (.int .i64 (csF l a)) ∧ Ext w w' := by
  have hE0 := (Ext.refl w).alloc (.cells #[v] 26)
  have hE := Ext.refl (w.alloc (.cells #[v] 26))
  have hb := box_cell w v 26
  have hg : ∀ W, Ext (w.alloc (.cells #[v] 26)) W → Ints W v l := fun W hW => h.ext (hE0.trans hW)
  clear h
  cases hs : isSetB l a
  · have Hs := Lib.hid hs
    go_enter Try.func37, Try.ntmps37
    go_wp2_with (first | (go_at_call 73; refine (sIsSet_any _ _ _ _ (hg _ hE)).mono ?_; rintro e w' ⟨rfl, hE'⟩; replace hE := hE.trans hE'; clear hE'))
    go_ret
    exact ⟨ret_int (csF_no Hs.out).symm, hE0.trans hE⟩
  · obtain ⟨n, rfl, h1, h2, h3⟩ := isSetB_nat hs
    have Hc := Lib.hid (csF_yes hs)
    go_enter Try.func37, Try.ntmps37
    go_wp2_with (first | (go_at_call 73; refine (sIsSet_any _ _ _ _ (hg _ hE)).mono ?_; rintro e w' ⟨rfl, hE'⟩; replace hE := hE.trans hE'; clear hE') | (go_at_call 85; refine (l3Bits_any _ (h2) _).mono ?_; rintro e w' ⟨rfl, rfl⟩))
    go_ret
    exact ⟨ret_int Hc.out.symm, hE0.trans hE⟩
def ssF (l : List Int) (a b : Int) : Int := if isSetB l a && isSetB l b then (sumF l a.toNat b.toNat : Int) else -1
theorem ssF_no {l : List Int} {a b : Int} (h : (isSetB l a && isSetB l b) = false) : ssF l a b = -1 := by unfold ssF; rw [h]; rfl
theorem ssF_yes {l : List Int} {m n : Nat} (h : (isSetB l m && isSetB l n) = true) : ssF l m n = sumF l m n := by unfold ssF; rw [if_pos h]; rfl
theorem sSumOfSets_any (v : Value) (l : List Int) (a b : Int) (w : World) (h : Ints w v l) :
    Calls Try.prog 18 #[.agg #[v], .int .i64 a, .int .i64 b] w fun e w' => e = .returned (.int .i64 (ssF l a b)) ∧ Ext w w' := by
  have hE0 := (Ext.refl w).alloc (.cells #[v] 26)
  have hE := Ext.refl (w.alloc (.cells #[v] 26))
  have hb := box_cell w v 26
  have hg : ∀ W, Ext (w.alloc (.cells #[v] 26)) W → Ints W v l := fun W hW => h.ext (hE0.trans hW)
  clear h
  cases ha : isSetB l a
  · have Hs := Lib.hid (ssF_no (l := l) (a := a) (b := b) (by rw [ha]; rfl))
    go_enter Try.func18, Try.ntmps18
    go_wp2_with (first | (go_at_call 73; refine (sIsSet_any _ _ _ _ (hg _ hE)).mono ?_; rintro e w' ⟨rfl, hE'⟩; replace hE := hE.trans hE'; clear hE'))
    go_ret
    exact ⟨ret_int Hs.out.symm, hE0.trans hE⟩
  · cases hb2 : isSetB l b
    · have Hs := Lib.hid (ssF_no (l := l) (a := a) (b := b) (by rw [ha, hb2]; rfl))
      go_enter Try.func18, Try.ntmps18
      go_wp2_with (first | (go_at_call 73; refine (sIsSet_any _ _ _ _ (hg _ hE)).mono ?_; rintro e w' ⟨rfl, hE'⟩; replace hE := hE.trans hE'; clear hE'))
      go_ret
      exact ⟨ret_int Hs.out.symm, hE0.trans hE⟩
    · obtain ⟨m, rfl, a1, a2, hgr⟩ := isSetB_nat ha
      obtain ⟨n, rfl, b1, b2, -⟩ := isSetB_nat hb2
      have Hs := Lib.hid (ssF_yes (l := l) (m := m) (n := n) (by rw [ha, hb2]; rfl))
      have Hgr := Lib.hid hgr
      go_enter Try.func18, Try.ntmps18
      go_wp2_with (first | (go_at_call 73; refine (sIsSet_any _ _ _ _ (hg _ hE)).mono ?_; rintro e w' ⟨rfl, hE'⟩; replace hE := hE.trans hE'; clear hE') | (go_at_call 74; refine (l4Sum_any _ _ _ _ _ (hg _ hE) (Hgr) (a2) (b2)).mono ?_; rintro e w' ⟨rfl, hE'⟩; replace hE := hE.trans hE'; clear hE'))
      go_ret
      exact ⟨ret_int Hs.out.symm, hE0.trans hE⟩
theorem sameInts_any (u v : Value) (l m : List Int) (w : World) (hu : Ints w u l) (hv : Ints w v m) :
    Calls Try.prog 47 #[u, v] w fun e w' => e = .returned (.bool (decide (l = m))) ∧ Ext w w' := by
  obtain ⟨ao, c, adr, rfl, hl, hadr, hcell⟩ := hu.op
  obtain ⟨bo, d, bdr, rfl, hm, hbdr, hdell⟩ := hv.op
  have hix := ints_index (c := c) elI szI hadr
  have hiy := ints_index (c := d) elI szI hbdr
  have Hc := Lib.hid hcell
  have Hd := Lib.hid hdell
  clear hadr hbdr hcell hdell hu hv
  by_cases hlen : l.length = m.length
  · have hq : (((l.length : Nat) : Int) != ((m.length : Nat) : Int)) = false := by rw [hlen]; simp
    have Hlen := Lib.hid hlen
    clear hlen
    go_enter Try.func47, Try.ntmps47
    go_wp2_with fail
    go_loopw [5] (fun si wr => ∃ k : Nat, k ≤ l.length ∧ si = .int .i64 k ∧ Ext w wr ∧ Hid (∀ j, j < k → nth l j = nth m j)) (fun si _ => l.length - (intOf si).toNat)
    case atStart => exact ⟨0, by omega, rfl, Ext.refl _, Lib.hid fun j hj => absurd hj (by omega)⟩
    case round =>
      rename World => wr
      obtain ⟨k, hk, rfl, hE0, H⟩ := hrel
      have HE0 := Lib.hid hE0
      clear hE0
      have hE := Ext.refl wr
      by_cases hlt : k < l.length
      · have hltI : (k : Int) < (l.length : Int) := by omega
        have hkm : k < m.length := by have := Hlen.out; omega
        have hckU := fun U => Hc.out k (Lat wr U) hlt (HE0.out.trans (lat_ext wr U))
        have hdkU := fun U => Hd.out k (Lat wr U) hkm (HE0.out.trans (lat_ext wr U))
        have hixk := hix k
        have hiyk := hiy k
        by_cases e : nth l k = nth m k
        · have hn : (nth l k != nth m k) = false := by rw [e]; simp
          have H2 : Hid (∀ j, j < k + 1 → nth l j = nth m j) := Lib.hid fun j hj => by by_cases q : j = k; (subst q; exact e); exact H.out j (by omega)
          clear e
          go_wp2_with fail
          (refine wp_region_lat (wr) (by kernel_rfl) (by kernel_rfl) hE ?_); (repeat (go_big_quiet_step (first | (fail "no call")))); (refine wpQuiet_nil ?_); (intro W hE'); (replace hE := lat_of hE'); (clear hE')
          go_wp2_with fail
          go_roundw
          case rel => exact ⟨k + 1, by omega, by go_num, HE0.out.trans hE, H2⟩
          case measure => (simp [intOf]; omega)
        · have hn : (nth l k != nth m k) = true := by rw [bne_iff_ne]; exact e
          have Hr : Hid (decide (l = m) = false) := Lib.hid (decide_eq_false fun q => e (by rw [q]))
          clear e
          go_wp2_with fail
          (refine wp_region_lat (wr) (by kernel_rfl) (by kernel_rfl) hE ?_); (repeat (go_big_quiet_step (first | (fail "no call")))); (refine wpQuiet_nil ?_); (intro W hE'); (replace hE := lat_of hE'); (clear hE')
          go_wp2_with fail
          go_ret
          exact ⟨ret_bool Hr.out.symm, HE0.out.trans hE⟩
      · have hltI : ¬ (k : Int) < (l.length : Int) := by omega
        have Hr : Hid (decide (l = m) = true) := Lib.hid (decide_eq_true (ext_nth Hlen.out fun i hi => H.out i (by omega)))
        go_wp2_with fail
        go_ret
        exact ⟨ret_bool Hr.out.symm, HE0.out⟩
  · have hq : (((l.length : Nat) : Int) != ((m.length : Nat) : Int)) = true := by rw [bne_iff_ne]; omega
    have Hr : Hid (decide (l = m) = false) := Lib.hid (decide_eq_false fun q => hlen (by rw [q]))
    clear hlen
    go_enter Try.func47, Try.ntmps47
    go_wp2_with fail
    go_ret
    exact ⟨ret_bool Hr.out.symm, Ext.refl _⟩
end Go.Zz
