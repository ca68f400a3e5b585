/- The draws of the extremal laws. -/
import Derived.Test.YtgjomoedgmofbaaDt
namespace Go.Zz
open Go.RowKit Go.Proofs
set_option maxHeartbeats 2000000
set_option maxRecDepth 8000

theorem l31Three_any (v : Value) (l : List Int) (w : World) (h : Byts w v l) :
    Calls Try.prog 107 #[v] w fun e w' => ∃ ao L c n m, e = .returned (.tuple #[.agg #[.slice ao (List.length L) c], .int .i64 n, .int .i64 m]) ∧ Own 3 w w' (.slice ao (List.length L) c) L ∧ (0 ≤ n ∧ n < 8) ∧ (0 ≤ m ∧ m < 8) ∧ Ext w w' := by
  have hE0 := (Ext.refl w).alloc (.cells #[.slice none 0 0] 26)
  have hB0 : Blk (w.alloc (.cells #[.slice none 0 0] 26)) w.heap.size 26 #[.slice none 0 0] := Blk.new _ _ _
  obtain ⟨wA, hwA⟩ : ∃ x, x = w.alloc (.cells #[.slice none 0 0] 26) := ⟨_, rfl⟩
  have hsA : wA.heap.size = w.heap.size + 1 := by rw [hwA]; simp
  rw [← hwA] at hE0 hB0
  have HwA := Lib.hid hwA
  clear hwA
  go_enter Try.func107, Try.ntmps107
  go_wp2_with fail
  rw [← HwA.out]
  refine (l1New_any _ _ w _ h hE0).mono ?_
  rintro e w2 ⟨p, rfl, hC2, hE2, hpA⟩
  have hp2 := hC2.lt
  have hB2 := hB0.ext hE2
  go_wp2_with fail
  refine (l2Draw_any w _ p 7 hC2).mono ?_
  rintro e w3 ⟨ao, L, c, rfl, hO3, hC3, hF3⟩
  have hB3 := hF3.blk hB2 (by omega)
  have hs3 := hF3.size
  have hBg3 : Blk (w3.alloc (.cells #[.slice ao L.length c] 26)) w3.heap.size 26 #[.slice ao L.length c] := Blk.new _ _ _
  clear hB0 hB2 hF3 hE2
  go_wp2_with fail
  refine (l1Once_any w _ p 10 (by omega) (hC3.alloc _)).mono ?_
  rintro e w4 ⟨b, rfl, hC, hF4⟩
  have hs4 := hF4.size
  have hs5 : (w3.alloc (.cells #[.slice ao L.length c] 26)).heap.size = w3.heap.size + 1 := by simp
  have hBr := hF4.blk (hB3.alloc (.cells #[.slice ao L.length c] 26)) (by omega)
  have hBg := hF4.blk hBg3 (by omega)
  have hO := hF4.own (hO3.alloc (.cells #[.slice ao L.length c] 26)) (by omega)
  have hpO := hp2.2
  clear hB3 hBg3 hO3 hF4 hC3
  cases b
  · go_wp2_with fail
    refine (l1Below_any w _ p 8 (by omega) hC).mono ?_
    rintro e w7 ⟨n, rfl, hb, hC7, hF7⟩
    obtain ⟨hn0, hn1⟩ := hb.2 (by omega)
    have hBr7 := hF7.blk hBr (by omega)
    have hBg7 := hF7.blk hBg (by omega)
    have hO7 := hF7.own hO hpO
    have hnot := own_not hO7 hBg7 (by decide)
    clear hBr hBg hO hC hF7 hb
    have hE7 := (Ext.refl w7).drew
    have hS0 : Cur w w7.drew p ∧ w7.drew.cell? ⟨w3.heap.size, 0, none⟩ = some (.slice ao L.length c) := ⟨hC7.ext hE7, (hBg7.ext hE7).cell rfl⟩
    have cB := fun W (hW : Cur w W p) => l1Below_any w W p 8 (by omega) hW
    go_wp2_with fail
    first | (go_region_held3 (fun W => Cur w W p ∧ W.cell? ⟨w3.heap.size, 0, none⟩ = some (.slice ao L.length c)) (first | exact hS0 | exact hS1 | exact hS2) (first | (go_at_call 122; ((with_reducible refine Calls.mono (cB _ hS0.1) ?_); rintro e w8 ⟨m, rfl, hb8, hC8, hF8⟩; have hBg8 := hF8.blk (hBg7.ext hE7) (by omega); have hBr8 := hF8.blk (hBr7.ext hE7) (by omega); have hO8 := hF8.own (hO7.ext hE7) hpO; have hS1 : Cur w w8 p ∧ w8.cell? ⟨w3.heap.size, 0, none⟩ = some (.slice ao L.length c) := ⟨hC8, hBg8.cell rfl⟩; have hS2 : Cur w (w8.setCell ⟨w.heap.size, 0, none⟩ (.slice ao L.length c)) p ∧ (w8.setCell ⟨w.heap.size, 0, none⟩ (.slice ao L.length c)).cell? ⟨w3.heap.size, 0, none⟩ = some (.slice ao L.length c) := ⟨hC8.other (by omega) (Nat.le_refl _) _, (hBg8.other (by simp; omega) _).cell rfl⟩; have kr8 := hBr8.cell (i := 0) (v := .slice none 0 0) rfl; have fr8 := hBr8.free 0)))) | (fail "the region")
    go_wp2_with fail
    have hm := hb8.2 (by omega)
    have hO9 := (Own.setCell_below hO8 (p := ⟨w.heap.size, 0, none⟩) (by show w.heap.size < _; omega) (.slice ao L.length c)).low (w0 := w) (by omega)
    have hC9 := hS2.1.base
    have kres := (hBr8.set 0 (.slice ao L.length c)).cell (i := 0) (v := .slice ao L.length c) rfl
    clear hS2 kr8 fr8
    generalize w8.setCell ⟨w.heap.size, 0, none⟩ (.slice ao L.length c) = w9 at hO9 hC9 kres ⊢
    exact bodyPost_ret (v := .tuple #[.agg #[.slice ao L.length c], .int .i64 n, .int .i64 m]) (by simp [results, Try.results107, go_sem, kres]) rfl ⟨_, L, _, n, m, rfl, hO9, ⟨hn0, hn1⟩, hm, hC9⟩
  · go_wp2_with fail
    refine (l2Any_any w _ p hC).mono ?_
    rintro e w5 ⟨ao5, L5, c5, rfl, hO5, hC5, hF5⟩
    have hs6 := hF5.size
    have hBr5 := hF5.blk hBr (by omega)
    have hBg5 := hF5.blk hBg (by omega)
    have kg5 := hBg5.cell (i := 0) (v := .slice ao L.length c) rfl
    have fg5 := hBg5.free 0
    have hg4 : w3.heap.size < w4.heap.size := hBg.lt
    have hO := (hO5.setCell_below (p := ⟨w3.heap.size, 0, none⟩) hg4 (.slice ao5 L5.length c5))
    have hpO := hC.lt.2
    have hC := hC5.other (b := w3.heap.size) (i := 0) (by omega) (by omega) (.slice ao5 L5.length c5)
    have hBr := hBr5.other (p := ⟨w3.heap.size, 0, none⟩) (by simp; omega) (.slice ao5 L5.length c5)
    have hBg : Blk (w5.setCell ⟨w3.heap.size, 0, none⟩ (.slice ao5 L5.length c5)) w3.heap.size 26 #[.slice ao5 L5.length c5] := hBg5.set 0 _
    clear hO5 hC5 hF5 hBr5 hBg5
    go_wp2_with fail
    clear kg5 fg5
    refine (l1Below_any w _ p 8 (by omega) hC).mono ?_
    rintro e w7 ⟨n, rfl, hb, hC7, hF7⟩
    obtain ⟨hn0, hn1⟩ := hb.2 (by omega)
    have hBr7 := hF7.blk hBr (by omega)
    have hBg7 := hF7.blk hBg (by omega)
    have hO7 := hF7.own hO hpO
    have hnot := own_not hO7 hBg7 (by decide)
    clear hBr hBg hO hC hF7 hb
    have hE7 := (Ext.refl w7).drew
    have hS0 : Cur w w7.drew p ∧ w7.drew.cell? ⟨w3.heap.size, 0, none⟩ = some (.slice ao5 L5.length c5) := ⟨hC7.ext hE7, (hBg7.ext hE7).cell rfl⟩
    have cB := fun W (hW : Cur w W p) => l1Below_any w W p 8 (by omega) hW
    go_wp2_with fail
    first | (go_region_held3 (fun W => Cur w W p ∧ W.cell? ⟨w3.heap.size, 0, none⟩ = some (.slice ao5 L5.length c5)) (first | exact hS0 | exact hS1 | exact hS2) (first | (go_at_call 122; ((with_reducible refine Calls.mono (cB _ hS0.1) ?_); rintro e w8 ⟨m, rfl, hb8, hC8, hF8⟩; have hBg8 := hF8.blk (hBg7.ext hE7) (by omega); have hBr8 := hF8.blk (hBr7.ext hE7) (by omega); have hO8 := hF8.own (hO7.ext hE7) hpO; have hS1 : Cur w w8 p ∧ w8.cell? ⟨w3.heap.size, 0, none⟩ = some (.slice ao5 L5.length c5) := ⟨hC8, hBg8.cell rfl⟩; have hS2 : Cur w (w8.setCell ⟨w.heap.size, 0, none⟩ (.slice ao5 L5.length c5)) p ∧ (w8.setCell ⟨w.heap.size, 0, none⟩ (.slice ao5 L5.length c5)).cell? ⟨w3.heap.size, 0, none⟩ = some (.slice ao5 L5.length c5) := ⟨hC8.other (by omega) (Nat.le_refl _) _, (hBg8.other (by simp; omega) _).cell rfl⟩; have kr8 := hBr8.cell (i := 0) (v := .slice none 0 0) rfl; have fr8 := hBr8.free 0)))) | (fail "the region")
    go_wp2_with fail
    have hm := hb8.2 (by omega)
    have hO9 := (Own.setCell_below hO8 (p := ⟨w.heap.size, 0, none⟩) (by show w.heap.size < _; omega) (.slice ao5 L5.length c5)).low (w0 := w) (by omega)
    have hC9 := hS2.1.base
    have kres := (hBr8.set 0 (.slice ao5 L5.length c5)).cell (i := 0) (v := .slice ao5 L5.length c5) rfl
    clear hS2 kr8 fr8
    generalize w8.setCell ⟨w.heap.size, 0, none⟩ (.slice ao5 L5.length c5) = w9 at hO9 hC9 kres ⊢
    exact bodyPost_ret (v := .tuple #[.agg #[.slice ao5 L5.length c5], .int .i64 n, .int .i64 m]) (by simp [results, Try.results107, go_sem, kres]) rfl ⟨_, L5, _, n, m, rfl, hO9, ⟨hn0, hn1⟩, hm, hC9⟩
theorem DrawLeastSumset_any (v : Value) (l : List Int) (w : World) (h : Byts w v l) :
    Calls Try.prog 11 #[v] w fun e w' => ∃ ao L c n m, e = .returned (.tuple #[.agg #[.slice ao (List.length L) c], .int .i64 n, .int .i64 m]) ∧ Own 3 w w' (.slice ao (List.length L) c) L ∧ (0 ≤ n ∧ n < 8) ∧ (0 ≤ m ∧ m < 8) ∧ Ext w w' := by
  have hE0 := (Ext.refl w).alloc (.cells #[.slice none 0 0] 26)
  have hB0 : Blk (w.alloc (.cells #[.slice none 0 0] 26)) w.heap.size 26 #[.slice none 0 0] := Blk.new _ _ _
  obtain ⟨wA, hwA⟩ : ∃ x, x = w.alloc (.cells #[.slice none 0 0] 26) := ⟨_, rfl⟩
  have hsA : wA.heap.size = w.heap.size + 1 := by rw [hwA]; simp
  rw [← hwA] at hE0 hB0
  have HwA := Lib.hid hwA
  clear hwA
  go_enter Try.func11, Try.ntmps11
  go_wp2_with fail
  rw [← HwA.out]
  refine (l31Three_any _ _ _ (h.ext hE0)).mono ?_
  rintro e w2 ⟨ao, L, c, n, m, rfl, hO, hn, hm, hE⟩
  have hBr := (hB0.ext hE).alloc (.cells #[.slice ao L.length c] 26)
  have kr := hBr.cell (i := 0) (v := .slice none 0 0) rfl
  have fr := hBr.free 0
  have kg := (Blk.new w2 26 #[.slice ao L.length c]).cell (i := 0) (v := .slice ao L.length c) rfl
  have hO9 := (Own.setCell_below (hO.alloc (.cells #[.slice ao L.length c] 26)) (p := ⟨w.heap.size, 0, none⟩) (by show w.heap.size < _; omega) (.slice ao L.length c)).low (w0 := w) (by omega)
  have hC9 := ((hE0.trans hE).alloc (.cells #[.slice ao L.length c] 26)).setCell (p := ⟨w.heap.size, 0, none⟩) (Nat.le_refl _) (.slice ao L.length c)
  have kres := (hBr.set 0 (.slice ao L.length c)).cell (i := 0) (v := .slice ao L.length c) rfl
  go_wp2_with fail
  clear kr fr kg hBr
  generalize (w2.alloc (.cells #[.slice ao L.length c] 26)).setCell ⟨w.heap.size, 0, none⟩ (.slice ao L.length c) = w9 at hO9 hC9 kres ⊢
  exact bodyPost_ret (v := .tuple #[.agg #[.slice ao L.length c], .int .i64 n, .int .i64 m]) (by simp [results, Try.results11, go_sem, kres]) rfl ⟨_, L, _, n, m, rfl, hO9, hn, hm, hC9⟩
theorem DrawLeastDouble_any (v : Value) (l : List Int) (w : World) (h : Byts w v l) :
    Calls Try.prog 20 #[v] w fun e w' => ∃ ao L c n, e = .returned (.tuple #[.agg #[.slice ao (List.length L) c], .int .i64 n]) ∧ Own 3 w w' (.slice ao (List.length L) c) L ∧ (0 ≤ n ∧ n < 8) ∧ Ext w w' := by
  have hE0 := (Ext.refl w).alloc (.cells #[.slice none 0 0] 26)
  have hB0 : Blk (w.alloc (.cells #[.slice none 0 0] 26)) w.heap.size 26 #[.slice none 0 0] := Blk.new _ _ _
  obtain ⟨wA, hwA⟩ : ∃ x, x = w.alloc (.cells #[.slice none 0 0] 26) := ⟨_, rfl⟩
  have hsA : wA.heap.size = w.heap.size + 1 := by rw [hwA]; simp
  rw [← hwA] at hE0 hB0
  have HwA := Lib.hid hwA
  clear hwA
  go_enter Try.func20, Try.ntmps20
  go_wp2_with fail
  rw [← HwA.out]
  refine (l31Three_any _ _ _ (h.ext hE0)).mono ?_
  rintro e w2 ⟨ao, L, c, n, m, rfl, hO, hn, hm, hE⟩
  have hBr := (hB0.ext hE).alloc (.cells #[.slice ao L.length c] 26)
  have kr := hBr.cell (i := 0) (v := .slice none 0 0) rfl
  have fr := hBr.free 0
  have kg := (Blk.new w2 26 #[.slice ao L.length c]).cell (i := 0) (v := .slice ao L.length c) rfl
  have hO9 := (Own.setCell_below (hO.alloc (.cells #[.slice ao L.length c] 26)) (p := ⟨w.heap.size, 0, none⟩) (by show w.heap.size < _; omega) (.slice ao L.length c)).low (w0 := w) (by omega)
  have hC9 := ((hE0.trans hE).alloc (.cells #[.slice ao L.length c] 26)).setCell (p := ⟨w.heap.size, 0, none⟩) (Nat.le_refl _) (.slice ao L.length c)
  have kres := (hBr.set 0 (.slice ao L.length c)).cell (i := 0) (v := .slice ao L.length c) rfl
  go_wp2_with fail
  clear kr fr kg hBr
  generalize (w2.alloc (.cells #[.slice ao L.length c] 26)).setCell ⟨w.heap.size, 0, none⟩ (.slice ao L.length c) = w9 at hO9 hC9 kres ⊢
  exact bodyPost_ret (v := .tuple #[.agg #[.slice ao L.length c], .int .i64 n]) (by simp [results, Try.results20, go_sem, kres]) rfl ⟨_, L, _, n, rfl, hO9, hn, hC9⟩
theorem DrawSizeFormula_any (v : Value) (l : List Int) (w : World) (h : Byts w v l) :
    Calls Try.prog 25 #[v] w fun e w' => ∃ o n m, e = .returned (.tuple #[.int .i64 o, .int .i64 n, .int .i64 m]) ∧ Ext w w' := by
  go_enter Try.func25, Try.ntmps25
  go_wp2_with fail
  refine (l1New_any _ _ w _ h (Ext.refl w)).mono ?_
  rintro e w2 ⟨p, rfl, hC2, hE2, hpA⟩
  have hp := hC2.lt
  have hOl := own_made (TI := 3) (n := 7) (by omega) (Ext.refl w2) [1, 6, 7, 12, 24, 0, 1001] rfl
  go_wp2_with fail
  refine (l1PickInt_any w _ w2 p _ _ (hC2.alloc _) hOl (by omega) (by decide) (by decide)).mono ?_
  rintro e w3 ⟨k, hk, rfl, hC3, hF3⟩
  obtain ⟨y, hyd⟩ : ∃ y, y = nth [1, 6, 7, 12, 24, 0, 1001] k := ⟨_, rfl⟩
  rw [← hyd]
  clear hyd hOl
  go_wp2_with fail
  refine (l1Below_any w _ p 9 (by omega) hC3).mono ?_
  rintro e w4 ⟨n, rfl, hn, hC4, hF4⟩
  go_wp2_with fail
  refine (l1Below_any w _ p 9 (by omega) hC4).mono ?_
  rintro e w5 ⟨m, rfl, hm, hC5, hF5⟩
  have hE5 := hC5.base
  go_wp2_with fail
  exact bodyPost_ret (v := .tuple #[.int .i64 y, .int .i64 n, .int .i64 m]) (by simp [results, Try.results25, go_sem]) rfl ⟨_, _, _, rfl, hE5⟩
theorem DrawDivisorsOf_any (v : Value) (l : List Int) (w : World) (h : Byts w v l) :
    Calls Try.prog 26 #[v] w fun e w' => ∃ o, e = .returned (.int .i64 o) ∧ Ext w w' := by
  go_enter Try.func26, Try.ntmps26
  go_wp2_with fail
  refine (l1New_any _ _ w _ h (Ext.refl w)).mono ?_
  rintro e w2 ⟨p, rfl, hC2, hE2, hpA⟩
  have hp := hC2.lt
  have hOl := own_made (TI := 3) (n := 9) (by omega) (Ext.refl w2) [0, 1, 6, 7, 12, 24, 1000, 1001, -1] rfl
  go_wp2_with fail
  refine (l1PickInt_any w _ w2 p _ _ (hC2.alloc _) hOl (by omega) (by decide) (by decide)).mono ?_
  rintro e w3 ⟨k, hk, rfl, hC3, hF3⟩
  have hE3 := hC3.base
  go_wp2_with fail
  go_ret
  exact ⟨_, rfl, hE3⟩
end Go.Zz
