/- EqualClaims of the program and of the reference: the walk of the law. -/
import Derived.Test.YtgjllfekhfdhaaaC45
import Derived.Test.YtgjllfekhfdhaaaC9b
import Derived.Test.YtgjllfekhfdhaaaC9c
import Derived.Deep.RegionHeld3
import Derived.Deep.RegionWith
import Derived.Deep.DeepCutAuto
namespace Go.Proofs.Ytgjllfekhfdhaaa
open Go.RowKit Go.Zz
set_option maxHeartbeats 4000000
set_option maxRecDepth 20000
set_option linter.unusedVariables false

theorem szC_le {g o t q : List Int} {left : Int} (h : 0 ≤ left) : szC g o t q left ≤ left := by
  unfold szC
  rcases szL_cases g h with e | ⟨e, e2⟩
  · rw [if_pos (by omega)]; omega
  rw [if_neg (by omega)]
  rcases szL_cases o e with f | ⟨f, f2⟩
  · rw [if_pos (by omega)]; omega
  rw [if_neg (by omega)]
  rcases szL_cases t f with i | ⟨i, i2⟩
  · rw [if_pos (by omega)]; omega
  rw [if_neg (by omega)]
  rcases szL_cases q i with j | ⟨j, j2⟩ <;> omega
theorem toClaim_lit (k a b s p n : Int) (g o t q : List Int) (v1 v2 v3 v4 : Value) (w : World) (h : Ints4 w v1 v2 v3 v4 g o t q) :
    Calls Try.prog 16 #[.agg #[.int .i64 k, v1, v2, .int .i64 a, .int .i64 b, .int .i64 s, .int .i64 p, v3, v4, .int .i64 n]] w fun e w' => ∃ a1 a2 a3 a4 k1 k2 k3 k4, e = .returned (.agg #[.int .i64 k, .slice a1 g.length k1, .slice a2 o.length k2, .int .i64 a, .int .i64 b, .int .i64 s, .int .i64 p, .slice a3 t.length k3, .slice a4 q.length k4, .int .i64 n]) ∧ Ints4 w' (.slice a1 g.length k1) (.slice a2 o.length k2) (.slice a3 t.length k3) (.slice a4 q.length k4) g o t q ∧ Ext w w' :=
  (toClaim_any k a b s p n g o t q v1 v2 v3 v4 w h).mono fun e w' ⟨u1, u2, u3, u4, he, hO, hE⟩ => by
    have hI := hO.ints
    obtain ⟨a1, k1, rfl, -⟩ := hO.h1.shape
    obtain ⟨a2, k2, rfl, -⟩ := hO.h2.shape
    obtain ⟨a3, k3, rfl, -⟩ := hO.h3.shape
    obtain ⟨a4, k4, rfl, -⟩ := hO.h4.shape
    exact ⟨a1, a2, a3, a4, k1, k2, k3, k4, he, hI, hE⟩
theorem eqClaim_lit (k a b s p n : Int) (g o t q : List Int) (v1 v2 v3 v4 u1 u2 u3 u4 : Value) (w : World) (h : Ints4 w v1 v2 v3 v4 g o t q) (h' : Ints4 w u1 u2 u3 u4 g o t q) :
    Calls Try.prog 18 #[.agg #[.int .i64 k, v1, v2, .int .i64 a, .int .i64 b, .int .i64 s, .int .i64 p, v3, v4, .int .i64 n], .agg #[.int .i64 k, u1, u2, .int .i64 a, .int .i64 b, .int .i64 s, .int .i64 p, u3, u4, .int .i64 n]] w fun e w' => e = .returned (.bool true) ∧ Ext w w' := eqClaim_same k a b s p n g o t q v1 v2 v3 v4 u1 u2 u3 u4 w h h'
theorem FnExactEqualClaims_walk {w : World} {v1 v2 v3 v4 u1 u2 u3 u4 : Value} {k a b s p n k' a' b' s' p' n' : Int} {g o t q g' o' t' q' : List Int} (hg : Ints w v1 g) (ho : Ints w v2 o) (ht : Ints w v3 t) (hq : Ints w v4 q) (hg' : Ints w u1 g') (ho' : Ints w u2 o') (ht' : Ints w u3 t') (hq' : Ints w u4 q') :
    Calls Try.prog 3 #[.agg #[.int .i64 k, v1, v2, .int .i64 a, .int .i64 b, .int .i64 s, .int .i64 p, v3, v4, .int .i64 n], .agg #[.int .i64 k', u1, u2, .int .i64 a', .int .i64 b', .int .i64 s', .int .i64 p', u3, u4, .int .i64 n']] w fun e w' => e = .returned (.bool true) ∧ Ext w w' := by
  have hA0 : Ints4 w v1 v2 v3 v4 g o t q := ⟨hg, ho, ht, hq⟩
  have hB0 : Ints4 w u1 u2 u3 u4 g' o' t' q' := ⟨hg', ho', ht', hq'⟩
  clear hg ho ht hq hg' ho' ht' hq'
  obtain ⟨R, hR⟩ : ∃ R, R = eqC ⟨k, g, o, a, b, s, p, t, q, n⟩ ⟨k', g', o', a', b', s', p', t', q', n'⟩ := ⟨_, rfl⟩
  have cS : ∀ x1 x2 x3 x4 y1 y2 y3 y4 W, Ints4 W x1 x2 x3 x4 g o t q → Ints4 W y1 y2 y3 y4 g' o' t' q' → Calls Try.prog 15 #[.agg #[.int .i64 k, x1, x2, .int .i64 a, .int .i64 b, .int .i64 s, .int .i64 p, x3, x4, .int .i64 n], .agg #[.int .i64 k', y1, y2, .int .i64 a', .int .i64 b', .int .i64 s', .int .i64 p', y3, y4, .int .i64 n']] W fun e w' => e = .returned (.bool R) ∧ Ext W w' := fun x1 x2 x3 x4 y1 y2 y3 y4 W hx hy => by
    rw [hR]; exact sEqualClaims_any ⟨k, g, o, a, b, s, p, t, q, n⟩ ⟨k', g', o', a', b', s', p', t', q', n'⟩ x1 x2 x3 x4 y1 y2 y3 y4 W ⟨hx.g, hx.o, hx.t, hx.q⟩ ⟨hy.g, hy.o, hy.t, hy.q⟩
  have cI : ∀ x1 x2 x3 x4 y1 y2 y3 y4 W, Ints4 W x1 x2 x3 x4 g o t q → Ints4 W y1 y2 y3 y4 g' o' t' q' → Calls Try.prog 17 #[.agg #[.int .i64 k, x1, x2, .int .i64 a, .int .i64 b, .int .i64 s, .int .i64 p, x3, x4, .int .i64 n], .agg #[.int .i64 k', y1, y2, .int .i64 a', .int .i64 b', .int .i64 s', .int .i64 p', y3, y4, .int .i64 n']] W fun e w' => e = .returned (.bool R) ∧ Ext W w' := fun x1 x2 x3 x4 y1 y2 y3 y4 W hx hy => by
    rw [hR]; exact EqualClaims_any ⟨k, g, o, a, b, s, p, t, q, n⟩ ⟨k', g', o', a', b', s', p', t', q', n'⟩ x1 x2 x3 x4 y1 y2 y3 y4 W ⟨hx.g, hx.o, hx.t, hx.q⟩ ⟨hy.g, hy.o, hy.t, hy.q⟩
  clear hR
  obtain ⟨wb, hwb⟩ : ∃ wb, wb = (w.alloc (.cells #[.int .i64 k, v1, v2, .int .i64 a, .int .i64 b, .int .i64 s, .int .i64 p, v3, v4, .int .i64 n] 26)).alloc (.cells #[.int .i64 k', u1, u2, .int .i64 a', .int .i64 b', .int .i64 s', .int .i64 p', u3, u4, .int .i64 n'] 26) := ⟨_, rfl⟩
  have e0 : Ext w wb := by rw [hwb]; exact ((Ext.refl _).alloc _).alloc _
  have BA : Blk wb w.heap.size 26 #[.int .i64 k, v1, v2, .int .i64 a, .int .i64 b, .int .i64 s, .int .i64 p, v3, v4, .int .i64 n] := by rw [hwb]; exact (Blk.new _ _ _).alloc _
  have BB : Blk wb (w.heap.size + 1) 26 #[.int .i64 k', u1, u2, .int .i64 a', .int .i64 b', .int .i64 s', .int .i64 p', u3, u4, .int .i64 n'] := by rw [hwb]; simpa using Blk.new (w.alloc (.cells #[.int .i64 k, v1, v2, .int .i64 a, .int .i64 b, .int .i64 s, .int .i64 p, v3, v4, .int .i64 n] 26)) 26 #[.int .i64 k', u1, u2, .int .i64 a', .int .i64 b', .int .i64 s', .int .i64 p', u3, u4, .int .i64 n']
  have HA : Hid (∀ W, Ext wb W → Ints4 W v1 v2 v3 v4 g o t q) := Lib.hid fun W hW => hA0.ext (e0.trans hW)
  have HB : Hid (∀ W, Ext wb W → Ints4 W u1 u2 u3 u4 g' o' t' q') := Lib.hid fun W hW => hB0.ext (e0.trans hW)
  have hE := Ext.refl wb
  have Hwb := Lib.hid hwb
  clear hwb hA0 hB0
  by_cases s1 : szC g o t q 1048576 < 0
  · go_enter Try.func3, Try.ntmps3
    go_wp2_with fail
    rw [← Hwb.out]
    refine (szClaim_any _ _ _ _ _ _ _ _ _ _ _ _ _ _ _ _ (HA.out _ hE) (by omega) (by omega)).mono ?_
    rintro e w1 ⟨rfl, hE1⟩
    go_wp2_with fail
    go_ret
    exact ⟨rfl, e0.trans hE1⟩
  have s1' : 0 ≤ szC g o t q 1048576 := by omega
  have s1l := szC_le (g := g) (o := o) (t := t) (q := q) (left := 1048576) (by omega)
  clear s1
  by_cases s2 : szC g' o' t' q' (szC g o t q 1048576) < 0
  · go_enter Try.func3, Try.ntmps3
    go_wp2_with fail
    rw [← Hwb.out]
    refine (szClaim_any _ _ _ _ _ _ _ _ _ _ _ _ _ _ _ _ (HA.out _ hE) (by omega) (by omega)).mono ?_
    rintro e w1 ⟨rfl, hE1⟩
    have z0 := (BB.ext hE1).cell (i := 0) (v := .int .i64 k') rfl
    have z1 := (BB.ext hE1).cell (i := 1) (v := u1) rfl
    have z2 := (BB.ext hE1).cell (i := 2) (v := u2) rfl
    have z3 := (BB.ext hE1).cell (i := 3) (v := .int .i64 a') rfl
    have z4 := (BB.ext hE1).cell (i := 4) (v := .int .i64 b') rfl
    have z5 := (BB.ext hE1).cell (i := 5) (v := .int .i64 s') rfl
    have z6 := (BB.ext hE1).cell (i := 6) (v := .int .i64 p') rfl
    have z7 := (BB.ext hE1).cell (i := 7) (v := u3) rfl
    have z8 := (BB.ext hE1).cell (i := 8) (v := u4) rfl
    have z9 := (BB.ext hE1).cell (i := 9) (v := .int .i64 n') rfl
    go_wp2_with fail
    refine (szClaim_any _ _ _ _ _ _ _ _ _ _ _ _ _ _ _ _ (HB.out _ hE1) (by omega) (by omega)).mono ?_
    rintro e w2 ⟨rfl, hE2⟩
    go_wp2_with fail
    go_ret
    exact ⟨rfl, e0.trans (hE1.trans hE2)⟩
  have s2' : 0 ≤ szC g' o' t' q' (szC g o t q 1048576) := by omega
  clear s2
  go_enter Try.func3, Try.ntmps3
  go_wp2_with fail
  rw [← Hwb.out]
  refine (szClaim_any _ _ _ _ _ _ _ _ _ _ _ _ _ _ _ _ (HA.out _ hE) (by omega) (by omega)).mono ?_
  rintro e w1 ⟨rfl, hE1⟩
  have z0 := (BB.ext hE1).cell (i := 0) (v := .int .i64 k') rfl
  have z1 := (BB.ext hE1).cell (i := 1) (v := u1) rfl
  have z2 := (BB.ext hE1).cell (i := 2) (v := u2) rfl
  have z3 := (BB.ext hE1).cell (i := 3) (v := .int .i64 a') rfl
  have z4 := (BB.ext hE1).cell (i := 4) (v := .int .i64 b') rfl
  have z5 := (BB.ext hE1).cell (i := 5) (v := .int .i64 s') rfl
  have z6 := (BB.ext hE1).cell (i := 6) (v := .int .i64 p') rfl
  have z7 := (BB.ext hE1).cell (i := 7) (v := u3) rfl
  have z8 := (BB.ext hE1).cell (i := 8) (v := u4) rfl
  have z9 := (BB.ext hE1).cell (i := 9) (v := .int .i64 n') rfl
  go_wp2_with fail
  refine (szClaim_any _ _ _ _ _ _ _ _ _ _ _ _ _ _ _ _ (HB.out _ hE1) (by omega) (by omega)).mono ?_
  rintro e w2 ⟨rfl, hE2⟩
  replace hE := hE1.trans hE2
  clear hE1 hE2 s1' s1l
  clear z0 z1 z2 z3 z4 z5 z6 z7 z8 z9
  replace BA := BA.ext hE
  replace BB := BB.ext hE
  have A0 := fun W (hW : Ext w2 W) => (BA.ext hW).cell (i := 0) (v := .int .i64 k) rfl
  have A1 := fun W (hW : Ext w2 W) => (BA.ext hW).cell (i := 1) (v := v1) rfl
  have A2 := fun W (hW : Ext w2 W) => (BA.ext hW).cell (i := 2) (v := v2) rfl
  have A3 := fun W (hW : Ext w2 W) => (BA.ext hW).cell (i := 3) (v := .int .i64 a) rfl
  have A4 := fun W (hW : Ext w2 W) => (BA.ext hW).cell (i := 4) (v := .int .i64 b) rfl
  have A5 := fun W (hW : Ext w2 W) => (BA.ext hW).cell (i := 5) (v := .int .i64 s) rfl
  have A6 := fun W (hW : Ext w2 W) => (BA.ext hW).cell (i := 6) (v := .int .i64 p) rfl
  have A7 := fun W (hW : Ext w2 W) => (BA.ext hW).cell (i := 7) (v := v3) rfl
  have A8 := fun W (hW : Ext w2 W) => (BA.ext hW).cell (i := 8) (v := v4) rfl
  have A9 := fun W (hW : Ext w2 W) => (BA.ext hW).cell (i := 9) (v := .int .i64 n) rfl
  have B0 := fun W (hW : Ext w2 W) => (BB.ext hW).cell (i := 0) (v := .int .i64 k') rfl
  have B1 := fun W (hW : Ext w2 W) => (BB.ext hW).cell (i := 1) (v := u1) rfl
  have B2 := fun W (hW : Ext w2 W) => (BB.ext hW).cell (i := 2) (v := u2) rfl
  have B3 := fun W (hW : Ext w2 W) => (BB.ext hW).cell (i := 3) (v := .int .i64 a') rfl
  have B4 := fun W (hW : Ext w2 W) => (BB.ext hW).cell (i := 4) (v := .int .i64 b') rfl
  have B5 := fun W (hW : Ext w2 W) => (BB.ext hW).cell (i := 5) (v := .int .i64 s') rfl
  have B6 := fun W (hW : Ext w2 W) => (BB.ext hW).cell (i := 6) (v := .int .i64 p') rfl
  have B7 := fun W (hW : Ext w2 W) => (BB.ext hW).cell (i := 7) (v := u3) rfl
  have B8 := fun W (hW : Ext w2 W) => (BB.ext hW).cell (i := 8) (v := u4) rfl
  have B9 := fun W (hW : Ext w2 W) => (BB.ext hW).cell (i := 9) (v := .int .i64 n') rfl
  go_wp2_with fail
  have hD := (Ext.refl (w2)).drew
  first | (go_region_held3 (fun W => Ext (w2) W ∧ W.cell? ⟨w.heap.size, 0, none⟩ = some (.int .i64 k) ∧ W.cell? ⟨w.heap.size, 1, none⟩ = some (v1) ∧ W.cell? ⟨w.heap.size, 2, none⟩ = some (v2) ∧ W.cell? ⟨w.heap.size, 3, none⟩ = some (.int .i64 a) ∧ W.cell? ⟨w.heap.size, 4, none⟩ = some (.int .i64 b) ∧ W.cell? ⟨w.heap.size, 5, none⟩ = some (.int .i64 s) ∧ W.cell? ⟨w.heap.size, 6, none⟩ = some (.int .i64 p) ∧ W.cell? ⟨w.heap.size, 7, none⟩ = some (v3) ∧ W.cell? ⟨w.heap.size, 8, none⟩ = some (v4) ∧ W.cell? ⟨w.heap.size, 9, none⟩ = some (.int .i64 n) ∧ W.cell? ⟨w.heap.size + 1, 0, none⟩ = some (.int .i64 k') ∧ W.cell? ⟨w.heap.size + 1, 1, none⟩ = some (u1) ∧ W.cell? ⟨w.heap.size + 1, 2, none⟩ = some (u2) ∧ W.cell? ⟨w.heap.size + 1, 3, none⟩ = some (.int .i64 a') ∧ W.cell? ⟨w.heap.size + 1, 4, none⟩ = some (.int .i64 b') ∧ W.cell? ⟨w.heap.size + 1, 5, none⟩ = some (.int .i64 s') ∧ W.cell? ⟨w.heap.size + 1, 6, none⟩ = some (.int .i64 p') ∧ W.cell? ⟨w.heap.size + 1, 7, none⟩ = some (u3) ∧ W.cell? ⟨w.heap.size + 1, 8, none⟩ = some (u4) ∧ W.cell? ⟨w.heap.size + 1, 9, none⟩ = some (.int .i64 n')) (exact ⟨(by repeat (first | assumption | exact Ext.refl _ | (apply And.left; assumption) | apply Ext.drew | apply Ext.alloc)), A0 _ (by repeat (first | assumption | exact Ext.refl _ | (apply And.left; assumption) | apply Ext.drew | apply Ext.alloc)), A1 _ (by repeat (first | assumption | exact Ext.refl _ | (apply And.left; assumption) | apply Ext.drew | apply Ext.alloc)), A2 _ (by repeat (first | assumption | exact Ext.refl _ | (apply And.left; assumption) | apply Ext.drew | apply Ext.alloc)), A3 _ (by repeat (first | assumption | exact Ext.refl _ | (apply And.left; assumption) | apply Ext.drew | apply Ext.alloc)), A4 _ (by repeat (first | assumption | exact Ext.refl _ | (apply And.left; assumption) | apply Ext.drew | apply Ext.alloc)), A5 _ (by repeat (first | assumption | exact Ext.refl _ | (apply And.left; assumption) | apply Ext.drew | apply Ext.alloc)), A6 _ (by repeat (first | assumption | exact Ext.refl _ | (apply And.left; assumption) | apply Ext.drew | apply Ext.alloc)), A7 _ (by repeat (first | assumption | exact Ext.refl _ | (apply And.left; assumption) | apply Ext.drew | apply Ext.alloc)), A8 _ (by repeat (first | assumption | exact Ext.refl _ | (apply And.left; assumption) | apply Ext.drew | apply Ext.alloc)), A9 _ (by repeat (first | assumption | exact Ext.refl _ | (apply And.left; assumption) | apply Ext.drew | apply Ext.alloc)), B0 _ (by repeat (first | assumption | exact Ext.refl _ | (apply And.left; assumption) | apply Ext.drew | apply Ext.alloc)), B1 _ (by repeat (first | assumption | exact Ext.refl _ | (apply And.left; assumption) | apply Ext.drew | apply Ext.alloc)), B2 _ (by repeat (first | assumption | exact Ext.refl _ | (apply And.left; assumption) | apply Ext.drew | apply Ext.alloc)), B3 _ (by repeat (first | assumption | exact Ext.refl _ | (apply And.left; assumption) | apply Ext.drew | apply Ext.alloc)), B4 _ (by repeat (first | assumption | exact Ext.refl _ | (apply And.left; assumption) | apply Ext.drew | apply Ext.alloc)), B5 _ (by repeat (first | assumption | exact Ext.refl _ | (apply And.left; assumption) | apply Ext.drew | apply Ext.alloc)), B6 _ (by repeat (first | assumption | exact Ext.refl _ | (apply And.left; assumption) | apply Ext.drew | apply Ext.alloc)), B7 _ (by repeat (first | assumption | exact Ext.refl _ | (apply And.left; assumption) | apply Ext.drew | apply Ext.alloc)), B8 _ (by repeat (first | assumption | exact Ext.refl _ | (apply And.left; assumption) | apply Ext.drew | apply Ext.alloc)), B9 _ (by repeat (first | assumption | exact Ext.refl _ | (apply And.left; assumption) | apply Ext.drew | apply Ext.alloc))⟩) (first | (go_at_call 16; ((with_reducible refine Calls.mono (toClaim_lit k a b s p n g o t q v1 v2 v3 v4 _ (HA.out _ (hE.trans (by repeat (first | assumption | exact Ext.refl _ | (apply And.left; assumption) | apply Ext.drew | apply Ext.alloc))))) ?_); rintro e wH0 ⟨aa1, aa2, aa3, aa4, ka1, ka2, ka3, ka4, rfl, hK1, hX0⟩; have hH0 := Ext.trans (a := w2) (by repeat (first | assumption | exact Ext.refl _ | (apply And.left; assumption) | apply Ext.drew | apply Ext.alloc)) hX0)) | (go_at_call 16; ((with_reducible refine Calls.mono (toClaim_lit k' a' b' s' p' n' g' o' t' q' u1 u2 u3 u4 _ (HB.out _ (hE.trans (by repeat (first | assumption | exact Ext.refl _ | (apply And.left; assumption) | apply Ext.drew | apply Ext.alloc))))) ?_); rintro e wH1 ⟨ab1, ab2, ab3, ab4, kb1, kb2, kb3, kb4, rfl, hK2, hX1⟩; have hH1 := Ext.trans (a := w2) (by repeat (first | assumption | exact Ext.refl _ | (apply And.left; assumption) | apply Ext.drew | apply Ext.alloc)) hX1)) | (go_at_call 15; ((with_reducible refine Calls.mono (cS _ _ _ _ _ _ _ _ _ (hK1.ext (by repeat (first | assumption | exact Ext.refl _ | (apply And.left; assumption) | apply Ext.drew | apply Ext.alloc))) (hK2.ext (by repeat (first | assumption | exact Ext.refl _ | (apply And.left; assumption) | apply Ext.drew | apply Ext.alloc)))) ?_); rintro e wH2 ⟨rfl, hX2⟩; have hH2 := Ext.trans (a := w2) (by repeat (first | assumption | exact Ext.refl _ | (apply And.left; assumption) | apply Ext.drew | apply Ext.alloc)) hX2)))) | (fail "the region with calls")
  obtain ⟨w3, h3⟩ : ∃ w3, Ext w2 w3 ∧ w3 = wH2 := ⟨_, by repeat (first | assumption | exact Ext.refl _ | (apply And.left; assumption) | apply Ext.drew | apply Ext.alloc), rfl⟩
  obtain ⟨h3, rfl⟩ := h3
  replace hE := hE.trans h3
  replace BA := BA.ext h3
  replace BB := BB.ext h3
  clear hD hH0 hH1 hH2 hX0 hX1 hX2 hK1 hK2 h3
  clear A0 A1 A2 A3 A4 A5 A6 A7 A8 A9 B0 B1 B2 B3 B4 B5 B6 B7 B8 B9
  have z0 := BA.cell (i := 0) (v := .int .i64 k) rfl
  have z1 := BA.cell (i := 1) (v := v1) rfl
  have z2 := BA.cell (i := 2) (v := v2) rfl
  have z3 := BA.cell (i := 3) (v := .int .i64 a) rfl
  have z4 := BA.cell (i := 4) (v := .int .i64 b) rfl
  have z5 := BA.cell (i := 5) (v := .int .i64 s) rfl
  have z6 := BA.cell (i := 6) (v := .int .i64 p) rfl
  have z7 := BA.cell (i := 7) (v := v3) rfl
  have z8 := BA.cell (i := 8) (v := v4) rfl
  have z9 := BA.cell (i := 9) (v := .int .i64 n) rfl
  go_wp2_with fail
  refine (toClaim_lit _ _ _ _ _ _ _ _ _ _ _ _ _ _ _ (HA.out _ hE)).mono ?_
  rintro e w4 ⟨ax1, ax2, ax3, ax4, kx1, kx2, kx3, kx4, rfl, hIX, hE4⟩
  clear z0 z1 z2 z3 z4 z5 z6 z7 z8 z9
  obtain ⟨w5, hw5⟩ : ∃ w5, w5 = w4.alloc (.cells #[.int .i64 k, .slice ax1 g.length kx1, .slice ax2 o.length kx2, .int .i64 a, .int .i64 b, .int .i64 s, .int .i64 p, .slice ax3 t.length kx3, .slice ax4 q.length kx4, .int .i64 n] 31) := ⟨_, rfl⟩
  have h45 : Ext w4 w5 := by rw [hw5]; exact (Ext.refl _).alloc _
  have BX : Blk w5 w4.heap.size 31 #[.int .i64 k, .slice ax1 g.length kx1, .slice ax2 o.length kx2, .int .i64 a, .int .i64 b, .int .i64 s, .int .i64 p, .slice ax3 t.length kx3, .slice ax4 q.length kx4, .int .i64 n] := by rw [hw5]; exact Blk.new _ _ _
  replace hE := hE.trans (hE4.trans h45)
  replace BA := BA.ext (hE4.trans h45)
  replace BB := BB.ext (hE4.trans h45)
  replace hIX := hIX.ext h45
  have z0 := BB.cell (i := 0) (v := .int .i64 k') rfl
  have z1 := BB.cell (i := 1) (v := u1) rfl
  have z2 := BB.cell (i := 2) (v := u2) rfl
  have z3 := BB.cell (i := 3) (v := .int .i64 a') rfl
  have z4 := BB.cell (i := 4) (v := .int .i64 b') rfl
  have z5 := BB.cell (i := 5) (v := .int .i64 s') rfl
  have z6 := BB.cell (i := 6) (v := .int .i64 p') rfl
  have z7 := BB.cell (i := 7) (v := u3) rfl
  have z8 := BB.cell (i := 8) (v := u4) rfl
  have z9 := BB.cell (i := 9) (v := .int .i64 n') rfl
  rw [hw5] at z0 z1 z2 z3 z4 z5 z6 z7 z8 z9
  have Hw5 := Lib.hid hw5
  clear hw5 hE4 h45
  go_wp2_with fail
  rw [← Hw5.out]
  refine (toClaim_lit _ _ _ _ _ _ _ _ _ _ _ _ _ _ _ (HB.out _ hE)).mono ?_
  rintro e w6 ⟨ay1, ay2, ay3, ay4, ky1, ky2, ky3, ky4, rfl, hIY, hE6⟩
  clear z0 z1 z2 z3 z4 z5 z6 z7 z8 z9
  obtain ⟨w7, hw7⟩ : ∃ w7, w7 = w6.alloc (.cells #[.int .i64 k', .slice ay1 g'.length ky1, .slice ay2 o'.length ky2, .int .i64 a', .int .i64 b', .int .i64 s', .int .i64 p', .slice ay3 t'.length ky3, .slice ay4 q'.length ky4, .int .i64 n'] 31) := ⟨_, rfl⟩
  have h67 : Ext w6 w7 := by rw [hw7]; exact (Ext.refl _).alloc _
  have BY : Blk w7 w6.heap.size 31 #[.int .i64 k', .slice ay1 g'.length ky1, .slice ay2 o'.length ky2, .int .i64 a', .int .i64 b', .int .i64 s', .int .i64 p', .slice ay3 t'.length ky3, .slice ay4 q'.length ky4, .int .i64 n'] := by rw [hw7]; exact Blk.new _ _ _
  replace hE := hE.trans (hE6.trans h67)
  replace BA := BA.ext (hE6.trans h67)
  replace BB := BB.ext (hE6.trans h67)
  replace BX := BX.ext (hE6.trans h67)
  replace hIX := hIX.ext (hE6.trans h67)
  replace hIY := hIY.ext h67
  have z0 := BX.cell (i := 0) (v := .int .i64 k) rfl
  have z1 := BX.cell (i := 1) (v := .slice ax1 g.length kx1) rfl
  have z2 := BX.cell (i := 2) (v := .slice ax2 o.length kx2) rfl
  have z3 := BX.cell (i := 3) (v := .int .i64 a) rfl
  have z4 := BX.cell (i := 4) (v := .int .i64 b) rfl
  have z5 := BX.cell (i := 5) (v := .int .i64 s) rfl
  have z6 := BX.cell (i := 6) (v := .int .i64 p) rfl
  have z7 := BX.cell (i := 7) (v := .slice ax3 t.length kx3) rfl
  have z8 := BX.cell (i := 8) (v := .slice ax4 q.length kx4) rfl
  have z9 := BX.cell (i := 9) (v := .int .i64 n) rfl
  have y0 := BY.cell (i := 0) (v := .int .i64 k') rfl
  have y1 := BY.cell (i := 1) (v := .slice ay1 g'.length ky1) rfl
  have y2 := BY.cell (i := 2) (v := .slice ay2 o'.length ky2) rfl
  have y3 := BY.cell (i := 3) (v := .int .i64 a') rfl
  have y4 := BY.cell (i := 4) (v := .int .i64 b') rfl
  have y5 := BY.cell (i := 5) (v := .int .i64 s') rfl
  have y6 := BY.cell (i := 6) (v := .int .i64 p') rfl
  have y7 := BY.cell (i := 7) (v := .slice ay3 t'.length ky3) rfl
  have y8 := BY.cell (i := 8) (v := .slice ay4 q'.length ky4) rfl
  have y9 := BY.cell (i := 9) (v := .int .i64 n') rfl
  rw [hw7] at z0 y0 z1 y1 z2 y2 z3 y3 z4 y4 z5 y5 z6 y6 z7 y7 z8 y8 z9 y9
  have Hw7 := Lib.hid hw7
  clear hw7 hE6 h67
  go_wp2_with fail
  rw [← Hw7.out]
  refine (cI _ _ _ _ _ _ _ _ _ hIX hIY).mono ?_
  rintro e w8 ⟨rfl, hE8⟩
  clear z0 z1 z2 z3 z4 z5 z6 z7 z8 z9 y0 y1 y2 y3 y4 y5 y6 y7 y8 y9
  replace hE := hE.trans hE8
  replace BA := BA.ext hE8
  replace BB := BB.ext hE8
  replace BX := BX.ext hE8
  replace BY := BY.ext hE8
  replace hIX := hIX.ext hE8
  replace hIY := hIY.ext hE8
  clear hE8
  have X0 := fun W (hW : Ext w8 W) => (BX.ext hW).cell (i := 0) (v := .int .i64 k) rfl
  have X1 := fun W (hW : Ext w8 W) => (BX.ext hW).cell (i := 1) (v := .slice ax1 g.length kx1) rfl
  have X2 := fun W (hW : Ext w8 W) => (BX.ext hW).cell (i := 2) (v := .slice ax2 o.length kx2) rfl
  have X3 := fun W (hW : Ext w8 W) => (BX.ext hW).cell (i := 3) (v := .int .i64 a) rfl
  have X4 := fun W (hW : Ext w8 W) => (BX.ext hW).cell (i := 4) (v := .int .i64 b) rfl
  have X5 := fun W (hW : Ext w8 W) => (BX.ext hW).cell (i := 5) (v := .int .i64 s) rfl
  have X6 := fun W (hW : Ext w8 W) => (BX.ext hW).cell (i := 6) (v := .int .i64 p) rfl
  have X7 := fun W (hW : Ext w8 W) => (BX.ext hW).cell (i := 7) (v := .slice ax3 t.length kx3) rfl
  have X8 := fun W (hW : Ext w8 W) => (BX.ext hW).cell (i := 8) (v := .slice ax4 q.length kx4) rfl
  have X9 := fun W (hW : Ext w8 W) => (BX.ext hW).cell (i := 9) (v := .int .i64 n) rfl
  have A0 := fun W (hW : Ext w8 W) => (BA.ext hW).cell (i := 0) (v := .int .i64 k) rfl
  have A1 := fun W (hW : Ext w8 W) => (BA.ext hW).cell (i := 1) (v := v1) rfl
  have A2 := fun W (hW : Ext w8 W) => (BA.ext hW).cell (i := 2) (v := v2) rfl
  have A3 := fun W (hW : Ext w8 W) => (BA.ext hW).cell (i := 3) (v := .int .i64 a) rfl
  have A4 := fun W (hW : Ext w8 W) => (BA.ext hW).cell (i := 4) (v := .int .i64 b) rfl
  have A5 := fun W (hW : Ext w8 W) => (BA.ext hW).cell (i := 5) (v := .int .i64 s) rfl
  have A6 := fun W (hW : Ext w8 W) => (BA.ext hW).cell (i := 6) (v := .int .i64 p) rfl
  have A7 := fun W (hW : Ext w8 W) => (BA.ext hW).cell (i := 7) (v := v3) rfl
  have A8 := fun W (hW : Ext w8 W) => (BA.ext hW).cell (i := 8) (v := v4) rfl
  have A9 := fun W (hW : Ext w8 W) => (BA.ext hW).cell (i := 9) (v := .int .i64 n) rfl
  go_wp2_with fail
  have hD := (Ext.refl (w8)).drew
  first | (go_region_held3 (fun W => Ext (w8) W ∧ W.cell? ⟨w4.heap.size, 0, none⟩ = some (.int .i64 k) ∧ W.cell? ⟨w4.heap.size, 1, none⟩ = some (.slice ax1 g.length kx1) ∧ W.cell? ⟨w4.heap.size, 2, none⟩ = some (.slice ax2 o.length kx2) ∧ W.cell? ⟨w4.heap.size, 3, none⟩ = some (.int .i64 a) ∧ W.cell? ⟨w4.heap.size, 4, none⟩ = some (.int .i64 b) ∧ W.cell? ⟨w4.heap.size, 5, none⟩ = some (.int .i64 s) ∧ W.cell? ⟨w4.heap.size, 6, none⟩ = some (.int .i64 p) ∧ W.cell? ⟨w4.heap.size, 7, none⟩ = some (.slice ax3 t.length kx3) ∧ W.cell? ⟨w4.heap.size, 8, none⟩ = some (.slice ax4 q.length kx4) ∧ W.cell? ⟨w4.heap.size, 9, none⟩ = some (.int .i64 n) ∧ W.cell? ⟨w.heap.size, 0, none⟩ = some (.int .i64 k) ∧ W.cell? ⟨w.heap.size, 1, none⟩ = some (v1) ∧ W.cell? ⟨w.heap.size, 2, none⟩ = some (v2) ∧ W.cell? ⟨w.heap.size, 3, none⟩ = some (.int .i64 a) ∧ W.cell? ⟨w.heap.size, 4, none⟩ = some (.int .i64 b) ∧ W.cell? ⟨w.heap.size, 5, none⟩ = some (.int .i64 s) ∧ W.cell? ⟨w.heap.size, 6, none⟩ = some (.int .i64 p) ∧ W.cell? ⟨w.heap.size, 7, none⟩ = some (v3) ∧ W.cell? ⟨w.heap.size, 8, none⟩ = some (v4) ∧ W.cell? ⟨w.heap.size, 9, none⟩ = some (.int .i64 n)) (exact ⟨(by repeat (first | assumption | exact Ext.refl _ | (apply And.left; assumption) | apply Ext.drew | apply Ext.alloc)), X0 _ (by repeat (first | assumption | exact Ext.refl _ | (apply And.left; assumption) | apply Ext.drew | apply Ext.alloc)), X1 _ (by repeat (first | assumption | exact Ext.refl _ | (apply And.left; assumption) | apply Ext.drew | apply Ext.alloc)), X2 _ (by repeat (first | assumption | exact Ext.refl _ | (apply And.left; assumption) | apply Ext.drew | apply Ext.alloc)), X3 _ (by repeat (first | assumption | exact Ext.refl _ | (apply And.left; assumption) | apply Ext.drew | apply Ext.alloc)), X4 _ (by repeat (first | assumption | exact Ext.refl _ | (apply And.left; assumption) | apply Ext.drew | apply Ext.alloc)), X5 _ (by repeat (first | assumption | exact Ext.refl _ | (apply And.left; assumption) | apply Ext.drew | apply Ext.alloc)), X6 _ (by repeat (first | assumption | exact Ext.refl _ | (apply And.left; assumption) | apply Ext.drew | apply Ext.alloc)), X7 _ (by repeat (first | assumption | exact Ext.refl _ | (apply And.left; assumption) | apply Ext.drew | apply Ext.alloc)), X8 _ (by repeat (first | assumption | exact Ext.refl _ | (apply And.left; assumption) | apply Ext.drew | apply Ext.alloc)), X9 _ (by repeat (first | assumption | exact Ext.refl _ | (apply And.left; assumption) | apply Ext.drew | apply Ext.alloc)), A0 _ (by repeat (first | assumption | exact Ext.refl _ | (apply And.left; assumption) | apply Ext.drew | apply Ext.alloc)), A1 _ (by repeat (first | assumption | exact Ext.refl _ | (apply And.left; assumption) | apply Ext.drew | apply Ext.alloc)), A2 _ (by repeat (first | assumption | exact Ext.refl _ | (apply And.left; assumption) | apply Ext.drew | apply Ext.alloc)), A3 _ (by repeat (first | assumption | exact Ext.refl _ | (apply And.left; assumption) | apply Ext.drew | apply Ext.alloc)), A4 _ (by repeat (first | assumption | exact Ext.refl _ | (apply And.left; assumption) | apply Ext.drew | apply Ext.alloc)), A5 _ (by repeat (first | assumption | exact Ext.refl _ | (apply And.left; assumption) | apply Ext.drew | apply Ext.alloc)), A6 _ (by repeat (first | assumption | exact Ext.refl _ | (apply And.left; assumption) | apply Ext.drew | apply Ext.alloc)), A7 _ (by repeat (first | assumption | exact Ext.refl _ | (apply And.left; assumption) | apply Ext.drew | apply Ext.alloc)), A8 _ (by repeat (first | assumption | exact Ext.refl _ | (apply And.left; assumption) | apply Ext.drew | apply Ext.alloc)), A9 _ (by repeat (first | assumption | exact Ext.refl _ | (apply And.left; assumption) | apply Ext.drew | apply Ext.alloc))⟩) (first | (go_at_call 16; ((with_reducible refine Calls.mono (toClaim_lit k a b s p n g o t q v1 v2 v3 v4 _ (HA.out _ (hE.trans (by repeat (first | assumption | exact Ext.refl _ | (apply And.left; assumption) | apply Ext.drew | apply Ext.alloc))))) ?_); rintro e wH0 ⟨aa1, aa2, aa3, aa4, ka1, ka2, ka3, ka4, rfl, hK1, hX0⟩; have hH0 := Ext.trans (a := w8) (by repeat (first | assumption | exact Ext.refl _ | (apply And.left; assumption) | apply Ext.drew | apply Ext.alloc)) hX0)) | (go_at_call 18; ((with_reducible refine Calls.mono (eqClaim_lit _ _ _ _ _ _ _ _ _ _ _ _ _ _ _ _ _ _ _ (hIX.ext (by repeat (first | assumption | exact Ext.refl _ | (apply And.left; assumption) | apply Ext.drew | apply Ext.alloc))) (hK1.ext (by repeat (first | assumption | exact Ext.refl _ | (apply And.left; assumption) | apply Ext.drew | apply Ext.alloc)))) ?_); rintro e wH1 ⟨rfl, hX1⟩; have hH1 := Ext.trans (a := w8) (by repeat (first | assumption | exact Ext.refl _ | (apply And.left; assumption) | apply Ext.drew | apply Ext.alloc)) hX1)))) | (fail "the region with calls")
  obtain ⟨w9, h9⟩ : ∃ w9, Ext w8 w9 ∧ w9 = wH1 := ⟨_, by repeat (first | assumption | exact Ext.refl _ | (apply And.left; assumption) | apply Ext.drew | apply Ext.alloc), rfl⟩
  obtain ⟨h9, rfl⟩ := h9
  replace hE := hE.trans h9
  replace BB := BB.ext h9
  replace BY := BY.ext h9
  replace hIY := hIY.ext h9
  clear hD hH0 hH1 hX0 hX1 hK1 h9 BA BX hIX
  clear A0 A1 A2 A3 A4 A5 A6 A7 A8 A9 X0 X1 X2 X3 X4 X5 X6 X7 X8 X9
  have Y0 := fun W (hW : Ext w9 W) => (BY.ext hW).cell (i := 0) (v := .int .i64 k') rfl
  have Y1 := fun W (hW : Ext w9 W) => (BY.ext hW).cell (i := 1) (v := .slice ay1 g'.length ky1) rfl
  have Y2 := fun W (hW : Ext w9 W) => (BY.ext hW).cell (i := 2) (v := .slice ay2 o'.length ky2) rfl
  have Y3 := fun W (hW : Ext w9 W) => (BY.ext hW).cell (i := 3) (v := .int .i64 a') rfl
  have Y4 := fun W (hW : Ext w9 W) => (BY.ext hW).cell (i := 4) (v := .int .i64 b') rfl
  have Y5 := fun W (hW : Ext w9 W) => (BY.ext hW).cell (i := 5) (v := .int .i64 s') rfl
  have Y6 := fun W (hW : Ext w9 W) => (BY.ext hW).cell (i := 6) (v := .int .i64 p') rfl
  have Y7 := fun W (hW : Ext w9 W) => (BY.ext hW).cell (i := 7) (v := .slice ay3 t'.length ky3) rfl
  have Y8 := fun W (hW : Ext w9 W) => (BY.ext hW).cell (i := 8) (v := .slice ay4 q'.length ky4) rfl
  have Y9 := fun W (hW : Ext w9 W) => (BY.ext hW).cell (i := 9) (v := .int .i64 n') rfl
  have B0 := fun W (hW : Ext w9 W) => (BB.ext hW).cell (i := 0) (v := .int .i64 k') rfl
  have B1 := fun W (hW : Ext w9 W) => (BB.ext hW).cell (i := 1) (v := u1) rfl
  have B2 := fun W (hW : Ext w9 W) => (BB.ext hW).cell (i := 2) (v := u2) rfl
  have B3 := fun W (hW : Ext w9 W) => (BB.ext hW).cell (i := 3) (v := .int .i64 a') rfl
  have B4 := fun W (hW : Ext w9 W) => (BB.ext hW).cell (i := 4) (v := .int .i64 b') rfl
  have B5 := fun W (hW : Ext w9 W) => (BB.ext hW).cell (i := 5) (v := .int .i64 s') rfl
  have B6 := fun W (hW : Ext w9 W) => (BB.ext hW).cell (i := 6) (v := .int .i64 p') rfl
  have B7 := fun W (hW : Ext w9 W) => (BB.ext hW).cell (i := 7) (v := u3) rfl
  have B8 := fun W (hW : Ext w9 W) => (BB.ext hW).cell (i := 8) (v := u4) rfl
  have B9 := fun W (hW : Ext w9 W) => (BB.ext hW).cell (i := 9) (v := .int .i64 n') rfl
  go_wp2_with fail
  have hD := (Ext.refl (w9)).drew
  first | (go_region_held3 (fun W => Ext (w9) W ∧ W.cell? ⟨w6.heap.size, 0, none⟩ = some (.int .i64 k') ∧ W.cell? ⟨w6.heap.size, 1, none⟩ = some (.slice ay1 g'.length ky1) ∧ W.cell? ⟨w6.heap.size, 2, none⟩ = some (.slice ay2 o'.length ky2) ∧ W.cell? ⟨w6.heap.size, 3, none⟩ = some (.int .i64 a') ∧ W.cell? ⟨w6.heap.size, 4, none⟩ = some (.int .i64 b') ∧ W.cell? ⟨w6.heap.size, 5, none⟩ = some (.int .i64 s') ∧ W.cell? ⟨w6.heap.size, 6, none⟩ = some (.int .i64 p') ∧ W.cell? ⟨w6.heap.size, 7, none⟩ = some (.slice ay3 t'.length ky3) ∧ W.cell? ⟨w6.heap.size, 8, none⟩ = some (.slice ay4 q'.length ky4) ∧ W.cell? ⟨w6.heap.size, 9, none⟩ = some (.int .i64 n') ∧ W.cell? ⟨w.heap.size + 1, 0, none⟩ = some (.int .i64 k') ∧ W.cell? ⟨w.heap.size + 1, 1, none⟩ = some (u1) ∧ W.cell? ⟨w.heap.size + 1, 2, none⟩ = some (u2) ∧ W.cell? ⟨w.heap.size + 1, 3, none⟩ = some (.int .i64 a') ∧ W.cell? ⟨w.heap.size + 1, 4, none⟩ = some (.int .i64 b') ∧ W.cell? ⟨w.heap.size + 1, 5, none⟩ = some (.int .i64 s') ∧ W.cell? ⟨w.heap.size + 1, 6, none⟩ = some (.int .i64 p') ∧ W.cell? ⟨w.heap.size + 1, 7, none⟩ = some (u3) ∧ W.cell? ⟨w.heap.size + 1, 8, none⟩ = some (u4) ∧ W.cell? ⟨w.heap.size + 1, 9, none⟩ = some (.int .i64 n')) (exact ⟨(by repeat (first | assumption | exact Ext.refl _ | (apply And.left; assumption) | apply Ext.drew | apply Ext.alloc)), Y0 _ (by repeat (first | assumption | exact Ext.refl _ | (apply And.left; assumption) | apply Ext.drew | apply Ext.alloc)), Y1 _ (by repeat (first | assumption | exact Ext.refl _ | (apply And.left; assumption) | apply Ext.drew | apply Ext.alloc)), Y2 _ (by repeat (first | assumption | exact Ext.refl _ | (apply And.left; assumption) | apply Ext.drew | apply Ext.alloc)), Y3 _ (by repeat (first | assumption | exact Ext.refl _ | (apply And.left; assumption) | apply Ext.drew | apply Ext.alloc)), Y4 _ (by repeat (first | assumption | exact Ext.refl _ | (apply And.left; assumption) | apply Ext.drew | apply Ext.alloc)), Y5 _ (by repeat (first | assumption | exact Ext.refl _ | (apply And.left; assumption) | apply Ext.drew | apply Ext.alloc)), Y6 _ (by repeat (first | assumption | exact Ext.refl _ | (apply And.left; assumption) | apply Ext.drew | apply Ext.alloc)), Y7 _ (by repeat (first | assumption | exact Ext.refl _ | (apply And.left; assumption) | apply Ext.drew | apply Ext.alloc)), Y8 _ (by repeat (first | assumption | exact Ext.refl _ | (apply And.left; assumption) | apply Ext.drew | apply Ext.alloc)), Y9 _ (by repeat (first | assumption | exact Ext.refl _ | (apply And.left; assumption) | apply Ext.drew | apply Ext.alloc)), B0 _ (by repeat (first | assumption | exact Ext.refl _ | (apply And.left; assumption) | apply Ext.drew | apply Ext.alloc)), B1 _ (by repeat (first | assumption | exact Ext.refl _ | (apply And.left; assumption) | apply Ext.drew | apply Ext.alloc)), B2 _ (by repeat (first | assumption | exact Ext.refl _ | (apply And.left; assumption) | apply Ext.drew | apply Ext.alloc)), B3 _ (by repeat (first | assumption | exact Ext.refl _ | (apply And.left; assumption) | apply Ext.drew | apply Ext.alloc)), B4 _ (by repeat (first | assumption | exact Ext.refl _ | (apply And.left; assumption) | apply Ext.drew | apply Ext.alloc)), B5 _ (by repeat (first | assumption | exact Ext.refl _ | (apply And.left; assumption) | apply Ext.drew | apply Ext.alloc)), B6 _ (by repeat (first | assumption | exact Ext.refl _ | (apply And.left; assumption) | apply Ext.drew | apply Ext.alloc)), B7 _ (by repeat (first | assumption | exact Ext.refl _ | (apply And.left; assumption) | apply Ext.drew | apply Ext.alloc)), B8 _ (by repeat (first | assumption | exact Ext.refl _ | (apply And.left; assumption) | apply Ext.drew | apply Ext.alloc)), B9 _ (by repeat (first | assumption | exact Ext.refl _ | (apply And.left; assumption) | apply Ext.drew | apply Ext.alloc))⟩) (first | (go_at_call 16; ((with_reducible refine Calls.mono (toClaim_lit k' a' b' s' p' n' g' o' t' q' u1 u2 u3 u4 _ (HB.out _ (hE.trans (by repeat (first | assumption | exact Ext.refl _ | (apply And.left; assumption) | apply Ext.drew | apply Ext.alloc))))) ?_); rintro e wH0 ⟨aa1, aa2, aa3, aa4, ka1, ka2, ka3, ka4, rfl, hK1, hX0⟩; have hH0 := Ext.trans (a := w9) (by repeat (first | assumption | exact Ext.refl _ | (apply And.left; assumption) | apply Ext.drew | apply Ext.alloc)) hX0)) | (go_at_call 18; ((with_reducible refine Calls.mono (eqClaim_lit _ _ _ _ _ _ _ _ _ _ _ _ _ _ _ _ _ _ _ (hIY.ext (by repeat (first | assumption | exact Ext.refl _ | (apply And.left; assumption) | apply Ext.drew | apply Ext.alloc))) (hK1.ext (by repeat (first | assumption | exact Ext.refl _ | (apply And.left; assumption) | apply Ext.drew | apply Ext.alloc)))) ?_); rintro e wH1 ⟨rfl, hX1⟩; have hH1 := Ext.trans (a := w9) (by repeat (first | assumption | exact Ext.refl _ | (apply And.left; assumption) | apply Ext.drew | apply Ext.alloc)) hX1)))) | (fail "the region with calls")
  go_wp2_with fail
  go_ret
  exact ⟨rfl, e0.trans (hE.trans (by repeat (first | assumption | exact Ext.refl _ | (apply And.left; assumption) | apply Ext.drew | apply Ext.alloc)))⟩
end Go.Proofs.Ytgjllfekhfdhaaa
