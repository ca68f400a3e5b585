/- CheckClaim of the program and of the reference: the walk of the law. -/
import Derived.Test.YtopokpamhojooaaGr5
import Derived.Test.YtopokpamhojooaaGr12
import Derived.Deep.RegionHeld3
import Derived.Deep.RegionWith
import Derived.Deep.DeepCutAuto
namespace Go.Proofs.Ytopokpamhojooaa
open Go.RowKit Go.Zz
set_option maxHeartbeats 4000000
set_option maxRecDepth 20000
set_option linter.unusedVariables false

theorem FnExactCheckClaim_walk {w : World} {v1 v2 v3 v4 : Value} {k a b s p n : Int} {g o t q : List Int} (hg : Ints w v1 g) (ho : Ints w v2 o) (ht : Ints w v3 t) (hq : Ints w v4 q) :
    Calls Try.prog 6 #[.agg #[.int .i64 k, v1, v2, .int .i64 a, .int .i64 b, .int .i64 s, .int .i64 p, v3, v4, .int .i64 n]] w fun e w' => e = .returned (.bool true) ∧ Ext w w' := by
  have hA0 : Ints4 w v1 v2 v3 v4 g o t q := ⟨hg, ho, ht, hq⟩
  clear hg ho ht hq
  obtain ⟨R, hR⟩ : ∃ R : Bool, R = ccF k g o a b s p t q n := ⟨_, rfl⟩
  have cS : ∀ x1 x2 x3 x4 W, Ints4 W x1 x2 x3 x4 g o t q → Calls Try.prog 23 #[.agg #[.int .i64 k, x1, x2, .int .i64 a, .int .i64 b, .int .i64 s, .int .i64 p, x3, x4, .int .i64 n]] W fun e w' => e = .returned (.bool R) ∧ Ext W w' := fun x1 x2 x3 x4 W hx => by
    rw [hR]; exact sCheckClaim_any k a b s p n g o t q x1 x2 x3 x4 W hx
  have cI : ∀ x1 x2 x3 x4 W, Ints4 W x1 x2 x3 x4 g o t q → Calls Try.prog 25 #[.agg #[.int .i64 k, x1, x2, .int .i64 a, .int .i64 b, .int .i64 s, .int .i64 p, x3, x4, .int .i64 n]] W fun e w' => e = .returned (.bool R) ∧ Ext W w' := fun x1 x2 x3 x4 W hx => by
    rw [hR]; exact CheckClaim_any k a b s p n g o t q x1 x2 x3 x4 W hx
  clear hR
  obtain ⟨wb, hwb⟩ : ∃ wb, wb = w.alloc (.cells #[.int .i64 k, v1, v2, .int .i64 a, .int .i64 b, .int .i64 s, .int .i64 p, v3, v4, .int .i64 n] 44) := ⟨_, rfl⟩
  have e0 : Ext w wb := by rw [hwb]; exact (Ext.refl _).alloc _
  have BA : Blk wb w.heap.size 44 #[.int .i64 k, v1, v2, .int .i64 a, .int .i64 b, .int .i64 s, .int .i64 p, v3, v4, .int .i64 n] := by rw [hwb]; exact Blk.new _ _ _
  have HA : Hid (∀ W, Ext wb W → Ints4 W v1 v2 v3 v4 g o t q) := Lib.hid fun W hW => hA0.ext (e0.trans hW)
  have hE := Ext.refl wb
  have Hwb := Lib.hid hwb
  clear hwb hA0
  by_cases s1 : szC g o t q 1048576 < 0
  · go_enter Try.func6, Try.ntmps6
    go_wp2_with fail
    rw [← Hwb.out]
    refine (szClaim_any _ _ _ _ _ _ _ _ _ _ _ _ _ _ _ _ (HA.out _ hE) (by omega) (by omega)).mono ?_
    rintro e w1 ⟨rfl, hE1⟩
    go_wp2_with fail
    go_ret
    exact ⟨rfl, e0.trans hE1⟩
  have s1' : 0 ≤ szC g o t q 1048576 := by omega
  clear s1
  go_enter Try.func6, Try.ntmps6
  go_wp2_with fail
  rw [← Hwb.out]
  refine (szClaim_any _ _ _ _ _ _ _ _ _ _ _ _ _ _ _ _ (HA.out _ hE) (by omega) (by omega)).mono ?_
  rintro e w1 ⟨rfl, hE1⟩
  have z0 := (BA.ext hE1).cell (i := 0) (v := .int .i64 k) rfl
  have z1 := (BA.ext hE1).cell (i := 1) (v := v1) rfl
  have z2 := (BA.ext hE1).cell (i := 2) (v := v2) rfl
  have z3 := (BA.ext hE1).cell (i := 3) (v := .int .i64 a) rfl
  have z4 := (BA.ext hE1).cell (i := 4) (v := .int .i64 b) rfl
  have z5 := (BA.ext hE1).cell (i := 5) (v := .int .i64 s) rfl
  have z6 := (BA.ext hE1).cell (i := 6) (v := .int .i64 p) rfl
  have z7 := (BA.ext hE1).cell (i := 7) (v := v3) rfl
  have z8 := (BA.ext hE1).cell (i := 8) (v := v4) rfl
  have z9 := (BA.ext hE1).cell (i := 9) (v := .int .i64 n) rfl
  go_wp2_with fail
  refine (toClaim_lit _ _ _ _ _ _ _ _ _ _ _ _ _ _ _ (HA.out _ hE1)).mono ?_
  rintro e w2 ⟨ay1, ay2, ay3, ay4, ky1, ky2, ky3, ky4, rfl, hIY, hE2⟩
  go_wp2_with fail
  refine (cS _ _ _ _ _ hIY).mono ?_
  rintro e w3 ⟨rfl, hE3⟩
  replace hE := hE1.trans (hE2.trans hE3)
  clear hE1 hE2 hE3 hIY
  clear z0 z1 z2 z3 z4 z5 z6 z7 z8 z9
  have z0 := (BA.ext hE).cell (i := 0) (v := .int .i64 k) rfl
  have z1 := (BA.ext hE).cell (i := 1) (v := v1) rfl
  have z2 := (BA.ext hE).cell (i := 2) (v := v2) rfl
  have z3 := (BA.ext hE).cell (i := 3) (v := .int .i64 a) rfl
  have z4 := (BA.ext hE).cell (i := 4) (v := .int .i64 b) rfl
  have z5 := (BA.ext hE).cell (i := 5) (v := .int .i64 s) rfl
  have z6 := (BA.ext hE).cell (i := 6) (v := .int .i64 p) rfl
  have z7 := (BA.ext hE).cell (i := 7) (v := v3) rfl
  have z8 := (BA.ext hE).cell (i := 8) (v := v4) rfl
  have z9 := (BA.ext hE).cell (i := 9) (v := .int .i64 n) rfl
  go_wp2_with fail
  refine (toClaim_lit _ _ _ _ _ _ _ _ _ _ _ _ _ _ _ (HA.out _ hE)).mono ?_
  rintro e w4 ⟨ax1, ax2, ax3, ax4, kx1, kx2, kx3, kx4, rfl, hIX, hE4⟩
  clear z0 z1 z2 z3 z4 z5 z6 z7 z8 z9
  obtain ⟨w5, hw5⟩ : ∃ w5, w5 = w4.alloc (.cells #[.int .i64 k, .slice ax1 g.length kx1, .slice ax2 o.length kx2, .int .i64 a, .int .i64 b, .int .i64 s, .int .i64 p, .slice ax3 t.length kx3, .slice ax4 q.length kx4, .int .i64 n] 32) := ⟨_, rfl⟩
  have h45 : Ext w4 w5 := by rw [hw5]; exact (Ext.refl _).alloc _
  have BX : Blk w5 w4.heap.size 32 #[.int .i64 k, .slice ax1 g.length kx1, .slice ax2 o.length kx2, .int .i64 a, .int .i64 b, .int .i64 s, .int .i64 p, .slice ax3 t.length kx3, .slice ax4 q.length kx4, .int .i64 n] := by rw [hw5]; exact Blk.new _ _ _
  replace hE := hE.trans (hE4.trans h45)
  replace hIX := hIX.ext h45
  have z0 := BX.cell (i := 0) (v := .int .i64 k) rfl
  have z1 := BX.cell (i := 1) (v := .slice ax1 g.length kx1) rfl
  have z2 := BX.cell (i := 2) (v := .slice ax2 o.length kx2) rfl
  have z3 := BX.cell (i := 3) (v := .int .i64 a) rfl
  have z4 := BX.cell (i := 4) (v := .int .i64 b) rfl
  have z5 := BX.cell (i := 5) (v := .int .i64 s) rfl
  have z6 := BX.cell (i := 6) (v := .int .i64 p) rfl
  have z7 := BX.cell (i := 7) (v := .slice ax3 t.length kx3) rfl
  have z8 := BX.cell (i := 8) (v := .slice ax4 q.length kx4) rfl
  have z9 := BX.cell (i := 9) (v := .int .i64 n) rfl
  rw [hw5] at z0 z1 z2 z3 z4 z5 z6 z7 z8 z9
  have Hw5 := Lib.hid hw5
  clear hw5 hE4 h45
  go_wp2_with fail
  rw [← Hw5.out]
  refine (cI _ _ _ _ _ hIX).mono ?_
  rintro e w8 ⟨rfl, hE8⟩
  clear z0 z1 z2 z3 z4 z5 z6 z7 z8 z9
  replace hE := hE.trans hE8
  replace BA := BA.ext hE
  replace BX := BX.ext hE8
  replace hIX := hIX.ext hE8
  clear hE8
  have X0 := fun W (hW : Ext w8 W) => (BX.ext hW).cell (i := 0) (v := .int .i64 k) rfl
  have X1 := fun W (hW : Ext w8 W) => (BX.ext hW).cell (i := 1) (v := .slice ax1 g.length kx1) rfl
  have X2 := fun W (hW : Ext w8 W) => (BX.ext hW).cell (i := 2) (v := .slice ax2 o.length kx2) rfl
  have X3 := fun W (hW : Ext w8 W) => (BX.ext hW).cell (i := 3) (v := .int .i64 a) rfl
  have X4 := fun W (hW : Ext w8 W) => (BX.ext hW).cell (i := 4) (v := .int .i64 b) rfl
  have X5 := fun W (hW : Ext w8 W) => (BX.ext hW).cell (i := 5) (v := .int .i64 s) rfl
  have X6 := fun W (hW : Ext w8 W) => (BX.ext hW).cell (i := 6) (v := .int .i64 p) rfl
  have X7 := fun W (hW : Ext w8 W) => (BX.ext hW).cell (i := 7) (v := .slice ax3 t.length kx3) rfl
  have X8 := fun W (hW : Ext w8 W) => (BX.ext hW).cell (i := 8) (v := .slice ax4 q.length kx4) rfl
  have X9 := fun W (hW : Ext w8 W) => (BX.ext hW).cell (i := 9) (v := .int .i64 n) rfl
  have A0 := fun W (hW : Ext w8 W) => (BA.ext hW).cell (i := 0) (v := .int .i64 k) rfl
  have A1 := fun W (hW : Ext w8 W) => (BA.ext hW).cell (i := 1) (v := v1) rfl
  have A2 := fun W (hW : Ext w8 W) => (BA.ext hW).cell (i := 2) (v := v2) rfl
  have A3 := fun W (hW : Ext w8 W) => (BA.ext hW).cell (i := 3) (v := .int .i64 a) rfl
  have A4 := fun W (hW : Ext w8 W) => (BA.ext hW).cell (i := 4) (v := .int .i64 b) rfl
  have A5 := fun W (hW : Ext w8 W) => (BA.ext hW).cell (i := 5) (v := .int .i64 s) rfl
  have A6 := fun W (hW : Ext w8 W) => (BA.ext hW).cell (i := 6) (v := .int .i64 p) rfl
  have A7 := fun W (hW : Ext w8 W) => (BA.ext hW).cell (i := 7) (v := v3) rfl
  have A8 := fun W (hW : Ext w8 W) => (BA.ext hW).cell (i := 8) (v := v4) rfl
  have A9 := fun W (hW : Ext w8 W) => (BA.ext hW).cell (i := 9) (v := .int .i64 n) rfl
  go_wp2_with fail
  have hD := (Ext.refl (w8)).drew
  first | (go_region_held3 (fun W => Ext (w8) W ∧ W.cell? ⟨w4.heap.size, 0, none⟩ = some (.int .i64 k) ∧ W.cell? ⟨w4.heap.size, 1, none⟩ = some (.slice ax1 g.length kx1) ∧ W.cell? ⟨w4.heap.size, 2, none⟩ = some (.slice ax2 o.length kx2) ∧ W.cell? ⟨w4.heap.size, 3, none⟩ = some (.int .i64 a) ∧ W.cell? ⟨w4.heap.size, 4, none⟩ = some (.int .i64 b) ∧ W.cell? ⟨w4.heap.size, 5, none⟩ = some (.int .i64 s) ∧ W.cell? ⟨w4.heap.size, 6, none⟩ = some (.int .i64 p) ∧ W.cell? ⟨w4.heap.size, 7, none⟩ = some (.slice ax3 t.length kx3) ∧ W.cell? ⟨w4.heap.size, 8, none⟩ = some (.slice ax4 q.length kx4) ∧ W.cell? ⟨w4.heap.size, 9, none⟩ = some (.int .i64 n) ∧ W.cell? ⟨w.heap.size, 0, none⟩ = some (.int .i64 k) ∧ W.cell? ⟨w.heap.size, 1, none⟩ = some (v1) ∧ W.cell? ⟨w.heap.size, 2, none⟩ = some (v2) ∧ W.cell? ⟨w.heap.size, 3, none⟩ = some (.int .i64 a) ∧ W.cell? ⟨w.heap.size, 4, none⟩ = some (.int .i64 b) ∧ W.cell? ⟨w.heap.size, 5, none⟩ = some (.int .i64 s) ∧ W.cell? ⟨w.heap.size, 6, none⟩ = some (.int .i64 p) ∧ W.cell? ⟨w.heap.size, 7, none⟩ = some (v3) ∧ W.cell? ⟨w.heap.size, 8, none⟩ = some (v4) ∧ W.cell? ⟨w.heap.size, 9, none⟩ = some (.int .i64 n)) (exact ⟨(by repeat (first | assumption | exact Ext.refl _ | (apply And.left; assumption) | apply Ext.drew | apply Ext.alloc)), X0 _ (by repeat (first | assumption | exact Ext.refl _ | (apply And.left; assumption) | apply Ext.drew | apply Ext.alloc)), X1 _ (by repeat (first | assumption | exact Ext.refl _ | (apply And.left; assumption) | apply Ext.drew | apply Ext.alloc)), X2 _ (by repeat (first | assumption | exact Ext.refl _ | (apply And.left; assumption) | apply Ext.drew | apply Ext.alloc)), X3 _ (by repeat (first | assumption | exact Ext.refl _ | (apply And.left; assumption) | apply Ext.drew | apply Ext.alloc)), X4 _ (by repeat (first | assumption | exact Ext.refl _ | (apply And.left; assumption) | apply Ext.drew | apply Ext.alloc)), X5 _ (by repeat (first | assumption | exact Ext.refl _ | (apply And.left; assumption) | apply Ext.drew | apply Ext.alloc)), X6 _ (by repeat (first | assumption | exact Ext.refl _ | (apply And.left; assumption) | apply Ext.drew | apply Ext.alloc)), X7 _ (by repeat (first | assumption | exact Ext.refl _ | (apply And.left; assumption) | apply Ext.drew | apply Ext.alloc)), X8 _ (by repeat (first | assumption | exact Ext.refl _ | (apply And.left; assumption) | apply Ext.drew | apply Ext.alloc)), X9 _ (by repeat (first | assumption | exact Ext.refl _ | (apply And.left; assumption) | apply Ext.drew | apply Ext.alloc)), A0 _ (by repeat (first | assumption | exact Ext.refl _ | (apply And.left; assumption) | apply Ext.drew | apply Ext.alloc)), A1 _ (by repeat (first | assumption | exact Ext.refl _ | (apply And.left; assumption) | apply Ext.drew | apply Ext.alloc)), A2 _ (by repeat (first | assumption | exact Ext.refl _ | (apply And.left; assumption) | apply Ext.drew | apply Ext.alloc)), A3 _ (by repeat (first | assumption | exact Ext.refl _ | (apply And.left; assumption) | apply Ext.drew | apply Ext.alloc)), A4 _ (by repeat (first | assumption | exact Ext.refl _ | (apply And.left; assumption) | apply Ext.drew | apply Ext.alloc)), A5 _ (by repeat (first | assumption | exact Ext.refl _ | (apply And.left; assumption) | apply Ext.drew | apply Ext.alloc)), A6 _ (by repeat (first | assumption | exact Ext.refl _ | (apply And.left; assumption) | apply Ext.drew | apply Ext.alloc)), A7 _ (by repeat (first | assumption | exact Ext.refl _ | (apply And.left; assumption) | apply Ext.drew | apply Ext.alloc)), A8 _ (by repeat (first | assumption | exact Ext.refl _ | (apply And.left; assumption) | apply Ext.drew | apply Ext.alloc)), A9 _ (by repeat (first | assumption | exact Ext.refl _ | (apply And.left; assumption) | apply Ext.drew | apply Ext.alloc))⟩) (first | (go_at_call 24; ((with_reducible refine Calls.mono (toClaim_lit k a b s p n g o t q v1 v2 v3 v4 _ (HA.out _ (hE.trans (by repeat (first | assumption | exact Ext.refl _ | (apply And.left; assumption) | apply Ext.drew | apply Ext.alloc))))) ?_); rintro e wH0 ⟨aa1, aa2, aa3, aa4, ka1, ka2, ka3, ka4, rfl, hK1, hX0⟩; have hH0 := Ext.trans (a := w8) (by repeat (first | assumption | exact Ext.refl _ | (apply And.left; assumption) | apply Ext.drew | apply Ext.alloc)) hX0)) | (go_at_call 15; ((with_reducible refine Calls.mono (eqClaim_lit _ _ _ _ _ _ _ _ _ _ _ _ _ _ _ _ _ _ _ (hIX.ext (by repeat (first | assumption | exact Ext.refl _ | (apply And.left; assumption) | apply Ext.drew | apply Ext.alloc))) (hK1.ext (by repeat (first | assumption | exact Ext.refl _ | (apply And.left; assumption) | apply Ext.drew | apply Ext.alloc)))) ?_); rintro e wH1 ⟨rfl, hX1⟩; have hH1 := Ext.trans (a := w8) (by repeat (first | assumption | exact Ext.refl _ | (apply And.left; assumption) | apply Ext.drew | apply Ext.alloc)) hX1)))) | (fail "the region with calls")
  go_wp2_with fail
  go_ret
  exact ⟨rfl, e0.trans (hE.trans (by repeat (first | assumption | exact Ext.refl _ | (apply And.left; assumption) | apply Ext.drew | apply Ext.alloc)))⟩
end Go.Proofs.Ytopokpamhojooaa
