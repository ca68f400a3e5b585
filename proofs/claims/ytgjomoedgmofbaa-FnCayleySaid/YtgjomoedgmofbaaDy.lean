/- The draws of the laws on Cayley graphs. -/
import Derived.Test.YtgjomoedgmofbaaDt
import Derived.Test.YtgjomoedgmofbaaC22
namespace Go.Zz
open Go.RowKit Go.Proofs
set_option maxHeartbeats 2000000
set_option maxRecDepth 8000

/-- a connection set, often -/
theorem l28Set_any (w0 w : World) (p : Nat) (m : Int) (h : Cur w0 w p) :
    Calls Try.prog 163 #[.pointer (some ⟨p, 0, none⟩), .int .i64 m] w fun e w' => ∃ ao L c x, e = .returned (.tuple #[.agg #[.slice ao (List.length L) c], .int .i64 x]) ∧ Own 3 w w' (.slice ao (List.length L) c) L ∧ Cur w0 w' p ∧ Drw p w w' := by
  have hp := h.lt
  have hB0 : Blk (w.alloc (.cells #[.slice none 0 0] 26)) w.heap.size 26 #[.slice none 0 0] := Blk.new _ _ _
  have hs0 : (w.alloc (.cells #[.slice none 0 0] 26)).heap.size = w.heap.size + 1 := by simp
  have hF0 := ((Ext.refl w).alloc (.cells #[.slice none 0 0] 26)).drw p
  go_enter Try.func163, Try.ntmps163
  go_wp2_with fail
  refine (l2Draw_any w0 _ p m (h.alloc _)).mono ?_
  rintro e w3 ⟨ao, L, c, rfl, hO3, hC3, hF3⟩
  have hB3 := hF3.blk hB0 (by omega)
  have hs3 := hF3.size
  have hF03 := hF0.trans hF3
  have hBg3 : Blk (w3.alloc (.cells #[.slice ao L.length c] 26)) w3.heap.size 26 #[.slice ao L.length c] := Blk.new _ _ _
  clear hB0 hF3 hF0
  go_wp2_with fail
  refine (l1Once_any w0 _ p 10 (by omega) (hC3.alloc _)).mono ?_
  rintro e w4 ⟨b, rfl, hC, hF4⟩
  have hs4 := hF4.size
  have hs5 : (w3.alloc (.cells #[.slice ao L.length c] 26)).heap.size = w3.heap.size + 1 := by simp
  have hBr := hF4.blk (hB3.alloc (.cells #[.slice ao L.length c] 26)) (by omega)
  have hBg := hF4.blk hBg3 (by omega)
  have hO := hF4.own (hO3.alloc (.cells #[.slice ao L.length c] 26)) (by omega)
  have hF := (hF03.alloc (.cells #[.slice ao L.length c] 26)).trans hF4
  clear hB3 hBg3 hO3 hF4 hC3 hF03
  cases b
  · have kg := hBg.cell (i := 0) (v := .slice ao L.length c) rfl
    go_wp2_with fail
    refine (l3Set_any w0 _ (w.alloc (.cells #[.slice none 0 0] 26)) p _ _ hC hO (by omega)).mono ?_
    rintro e w6 ⟨a, rfl, ha, hC6, hF6⟩
    have hs7 := hF6.size
    have hBr6 := hF6.blk hBr (by omega)
    have hBg6 := hF6.blk hBg (by omega)
    have hO6 := hF6.own hO (by omega)
    have hFw6 := Lib.hid (hF.trans hF6)
    have kg6 := hBg6.cell (i := 0) (v := .slice ao L.length c) rfl
    clear hBr hBg hO hF hC hF6
    cases hs : isSetB L a
    · go_wp2_with fail
      refine (sIsSet_any _ _ _ _ hO6.ints).mono ?_
      rw [hs]
      rintro e w7 ⟨rfl, hE7⟩
      have hs8 := hE7.size
      have hBr7 := hBr6.ext hE7
      have kg7 := (hBg6.ext hE7).cell (i := 0) (v := .slice ao L.length c) rfl
      have kr7 := hBr7.cell (i := 0) (v := .slice none 0 0) rfl
      have fr7 := hBr7.free 0
      have hC7 := hC6.ext hE7
      have hO7 := hO6.ext hE7
      have hF7 := hFw6.out.trans (hE7.drw p)
      go_wp2_with fail
      have hO9 := (Own.setCell_below hO7 (p := ⟨w.heap.size, 0, none⟩) (by show w.heap.size < _; omega) (.slice ao L.length c)).low (w0 := w) (by omega)
      have hC9 := hC7.other (b := w.heap.size) (i := 0) (by omega) (by omega) (.slice ao L.length c)
      have hF9 := hF7.set (b := w.heap.size) (Nat.le_refl _) 0 (.slice ao L.length c)
      have kres := (hBr7.set 0 (.slice ao L.length c)).cell (i := 0) (v := .slice ao L.length c) rfl
      clear kr7 fr7
      generalize (w7.setCell ⟨w.heap.size, 0, none⟩ (.slice ao L.length c)) = wZ at hO9 hC9 hF9 kres ⊢
      exact bodyPost_ret (v := .tuple #[.agg #[.slice ao L.length c], .int .i64 _]) (by simp [results, Try.results163, go_sem, kres]; rfl) rfl ⟨_, L, _, _, rfl, hO9, hC9, hF9⟩
    · obtain ⟨n, rfl, hn1, hn2, hgr⟩ := isSetB_nat hs
      have Hgr := Lib.hid hgr
      have ho2 := oppF_bd hgr n
      have q1 := ior_nat (a := n) (b := oppF L n) (by omega) (by omega)
      have ho3 : n ||| oppF L n < 2 ^ 24 := Nat.or_lt_two_pow hn2 ho2
      have q2 := iand_one (a := n ||| oppF L n) (by omega)
      have q3 : IntKind.i64.wrap (((n ||| oppF L n : Nat) : Int) - (((n ||| oppF L n) % 2 : Nat) : Int)) = (((n ||| oppF L n : Nat) : Int) - (((n ||| oppF L n) % 2 : Nat) : Int)) := IntWalk.i64_in _ (by omega)
      clear hgr
      go_wp2_with fail
      refine (sIsSet_any _ _ _ _ hO6.ints).mono ?_
      rw [hs]
      rintro e w7 ⟨rfl, hE7⟩
      have hs8 := hE7.size
      have hBr7 := hBr6.ext hE7
      have hBg7 := hBg6.ext hE7
      have hC7 := hC6.ext hE7
      have hO7 := hO6.ext hE7
      have hF7 := Lib.hid (hFw6.out.trans (hE7.drw p))
      clear hBr6 hBg6 hC6 hO6 hFw6 kg6 hs
      go_wp2_with fail
      refine (l1Once_any w0 _ p 8 (by omega) hC7).mono ?_
      rintro e w8 ⟨b, rfl, hC8, hF8⟩
      have hs9 := hF8.size
      have hBr8 := hF8.blk hBr7 (by omega)
      have hBg8 := hF8.blk hBg7 (by omega)
      have hO8 := hF8.own hO7 (by omega)
      have hFw8 := Lib.hid (hF7.out.trans hF8)
      have kg8 := hBg8.cell (i := 0) (v := .slice ao L.length c) rfl
      clear hBr7 hBg7 hO7 hC7 hF7 hF8
      cases b
      · go_wp2_with fail
        refine (l3Negate_any _ _ _ _ hO8.ints Hgr hn2).mono ?_
        rintro e w9 ⟨rfl, hE9⟩
        have hs10 := hE9.size
        have hBr7 := hBr8.ext hE9
        have kg7 := (hBg8.ext hE9).cell (i := 0) (v := .slice ao L.length c) rfl
        have kr7 := hBr7.cell (i := 0) (v := .slice none 0 0) rfl
        have fr7 := hBr7.free 0
        have hC7 := hC8.ext hE9
        have hO7 := hO8.ext hE9
        have hF7 := hFw8.out.trans (hE9.drw p)
        clear hBr8 hBg8 hC8 hO8 hFw8 kg8
        go_wp2_with fail
        have hO9 := (Own.setCell_below hO7 (p := ⟨w.heap.size, 0, none⟩) (by show w.heap.size < _; omega) (.slice ao L.length c)).low (w0 := w) (by omega)
        have hC9 := hC7.other (b := w.heap.size) (i := 0) (by omega) (by omega) (.slice ao L.length c)
        have hF9 := hF7.set (b := w.heap.size) (Nat.le_refl _) 0 (.slice ao L.length c)
        have kres := (hBr7.set 0 (.slice ao L.length c)).cell (i := 0) (v := .slice ao L.length c) rfl
        clear kr7 fr7
        generalize (w9.setCell ⟨w.heap.size, 0, none⟩ (.slice ao L.length c)) = wZ at hO9 hC9 hF9 kres ⊢
        exact bodyPost_ret (v := .tuple #[.agg #[.slice ao L.length c], .int .i64 _]) (by simp [results, Try.results163, go_sem, kres]; rfl) rfl ⟨_, L, _, _, rfl, hO9, hC9, hF9⟩
      · have hC7 := hC8
        have hO7 := hO8
        have hF7 := hFw8.out
        have hBr7 := hBr8
        have kr7 := hBr7.cell (i := 0) (v := .slice none 0 0) rfl
        have fr7 := hBr7.free 0
        clear hBr8 hC8 hO8 hFw8
        go_wp2_with fail
        have hO9 := (Own.setCell_below hO7 (p := ⟨w.heap.size, 0, none⟩) (by show w.heap.size < _; omega) (.slice ao L.length c)).low (w0 := w) (by omega)
        have hC9 := hC7.other (b := w.heap.size) (i := 0) (by omega) (by omega) (.slice ao L.length c)
        have hF9 := hF7.set (b := w.heap.size) (Nat.le_refl _) 0 (.slice ao L.length c)
        have kres := (hBr7.set 0 (.slice ao L.length c)).cell (i := 0) (v := .slice ao L.length c) rfl
        clear kr7 fr7
        generalize (w8.setCell ⟨w.heap.size, 0, none⟩ (.slice ao L.length c)) = wZ at hO9 hC9 hF9 kres ⊢
        exact bodyPost_ret (v := .tuple #[.agg #[.slice ao L.length c], .int .i64 _]) (by simp [results, Try.results163, go_sem, kres]; rfl) rfl ⟨_, L, _, _, rfl, hO9, hC9, hF9⟩
  · go_wp2_with fail
    refine (l2Any_any w0 _ p hC).mono ?_
    rintro e w5 ⟨ao5, L5, c5, rfl, hO5, hC5, hF5⟩
    have hs6 := hF5.size
    have hBr5 := hF5.blk hBr (by omega)
    have hBg5 := hF5.blk hBg (by omega)
    have kg5 := hBg5.cell (i := 0) (v := .slice ao L.length c) rfl
    have fg5 := hBg5.free 0
    have hg4 : w3.heap.size < w4.heap.size := hBg.lt
    have hO := (hO5.setCell_below (p := ⟨w3.heap.size, 0, none⟩) hg4 (.slice ao5 L5.length c5))
    have hC := hC5.other (b := w3.heap.size) (i := 0) (by omega) (by omega) (.slice ao5 L5.length c5)
    have hBr := hBr5.other (p := ⟨w3.heap.size, 0, none⟩) (by simp; omega) (.slice ao5 L5.length c5)
    have hBg : Blk (w5.setCell ⟨w3.heap.size, 0, none⟩ (.slice ao5 L5.length c5)) w3.heap.size 26 #[.slice ao5 L5.length c5] := hBg5.set 0 _
    have hF := (hF.trans hF5).set (b := w3.heap.size) (by omega) 0 (.slice ao5 L5.length c5)
    have kg := hBg.cell (i := 0) (v := .slice ao5 L5.length c5) rfl
    have hsz : (w5.setCell ⟨w3.heap.size, 0, none⟩ (.slice ao5 L5.length c5)).heap.size = w5.heap.size := by simp
    clear hO5 hC5 hF5 hBr5 hBg5
    go_wp2_with fail
    clear kg5 fg5
    refine (l3Set_any w0 _ w4 p _ _ hC hO (by omega)).mono ?_
    rintro e w6 ⟨a, rfl, ha, hC6, hF6⟩
    have hs7 := hF6.size
    have hBr6 := hF6.blk hBr (by omega)
    have hBg6 := hF6.blk hBg (by omega)
    have hO6 := hF6.own hO (by omega)
    have hFw6 := Lib.hid (hF.trans hF6)
    have kg6 := hBg6.cell (i := 0) (v := .slice ao5 L5.length c5) rfl
    clear hBr hBg hO hF hC hF6
    cases hs : isSetB L5 a
    · go_wp2_with fail
      refine (sIsSet_any _ _ _ _ hO6.ints).mono ?_
      rw [hs]
      rintro e w7 ⟨rfl, hE7⟩
      have hs8 := hE7.size
      have hBr7 := hBr6.ext hE7
      have kg7 := (hBg6.ext hE7).cell (i := 0) (v := .slice ao5 L5.length c5) rfl
      have kr7 := hBr7.cell (i := 0) (v := .slice none 0 0) rfl
      have fr7 := hBr7.free 0
      have hC7 := hC6.ext hE7
      have hO7 := hO6.ext hE7
      have hF7 := hFw6.out.trans (hE7.drw p)
      go_wp2_with fail
      have hO9 := (Own.setCell_below hO7 (p := ⟨w.heap.size, 0, none⟩) (by show w.heap.size < _; omega) (.slice ao5 L5.length c5)).low (w0 := w) (by omega)
      have hC9 := hC7.other (b := w.heap.size) (i := 0) (by omega) (by omega) (.slice ao5 L5.length c5)
      have hF9 := hF7.set (b := w.heap.size) (Nat.le_refl _) 0 (.slice ao5 L5.length c5)
      have kres := (hBr7.set 0 (.slice ao5 L5.length c5)).cell (i := 0) (v := .slice ao5 L5.length c5) rfl
      clear kr7 fr7
      generalize (w7.setCell ⟨w.heap.size, 0, none⟩ (.slice ao5 L5.length c5)) = wZ at hO9 hC9 hF9 kres ⊢
      exact bodyPost_ret (v := .tuple #[.agg #[.slice ao5 L5.length c5], .int .i64 _]) (by simp [results, Try.results163, go_sem, kres]; rfl) rfl ⟨_, L5, _, _, rfl, hO9, hC9, hF9⟩
    · obtain ⟨n, rfl, hn1, hn2, hgr⟩ := isSetB_nat hs
      have Hgr := Lib.hid hgr
      have ho2 := oppF_bd hgr n
      have q1 := ior_nat (a := n) (b := oppF L5 n) (by omega) (by omega)
      have ho3 : n ||| oppF L5 n < 2 ^ 24 := Nat.or_lt_two_pow hn2 ho2
      have q2 := iand_one (a := n ||| oppF L5 n) (by omega)
      have q3 : IntKind.i64.wrap (((n ||| oppF L5 n : Nat) : Int) - (((n ||| oppF L5 n) % 2 : Nat) : Int)) = (((n ||| oppF L5 n : Nat) : Int) - (((n ||| oppF L5 n) % 2 : Nat) : Int)) := IntWalk.i64_in _ (by omega)
      clear hgr
      go_wp2_with fail
      refine (sIsSet_any _ _ _ _ hO6.ints).mono ?_
      rw [hs]
      rintro e w7 ⟨rfl, hE7⟩
      have hs8 := hE7.size
      have hBr7 := hBr6.ext hE7
      have hBg7 := hBg6.ext hE7
      have hC7 := hC6.ext hE7
      have hO7 := hO6.ext hE7
      have hF7 := Lib.hid (hFw6.out.trans (hE7.drw p))
      clear hBr6 hBg6 hC6 hO6 hFw6 kg6 hs
      go_wp2_with fail
      refine (l1Once_any w0 _ p 8 (by omega) hC7).mono ?_
      rintro e w8 ⟨b, rfl, hC8, hF8⟩
      have hs9 := hF8.size
      have hBr8 := hF8.blk hBr7 (by omega)
      have hBg8 := hF8.blk hBg7 (by omega)
      have hO8 := hF8.own hO7 (by omega)
      have hFw8 := Lib.hid (hF7.out.trans hF8)
      have kg8 := hBg8.cell (i := 0) (v := .slice ao5 L5.length c5) rfl
      clear hBr7 hBg7 hO7 hC7 hF7 hF8
      cases b
      · go_wp2_with fail
        refine (l3Negate_any _ _ _ _ hO8.ints Hgr hn2).mono ?_
        rintro e w9 ⟨rfl, hE9⟩
        have hs10 := hE9.size
        have hBr7 := hBr8.ext hE9
        have kg7 := (hBg8.ext hE9).cell (i := 0) (v := .slice ao5 L5.length c5) rfl
        have kr7 := hBr7.cell (i := 0) (v := .slice none 0 0) rfl
        have fr7 := hBr7.free 0
        have hC7 := hC8.ext hE9
        have hO7 := hO8.ext hE9
        have hF7 := hFw8.out.trans (hE9.drw p)
        clear hBr8 hBg8 hC8 hO8 hFw8 kg8
        go_wp2_with fail
        have hO9 := (Own.setCell_below hO7 (p := ⟨w.heap.size, 0, none⟩) (by show w.heap.size < _; omega) (.slice ao5 L5.length c5)).low (w0 := w) (by omega)
        have hC9 := hC7.other (b := w.heap.size) (i := 0) (by omega) (by omega) (.slice ao5 L5.length c5)
        have hF9 := hF7.set (b := w.heap.size) (Nat.le_refl _) 0 (.slice ao5 L5.length c5)
        have kres := (hBr7.set 0 (.slice ao5 L5.length c5)).cell (i := 0) (v := .slice ao5 L5.length c5) rfl
        clear kr7 fr7
        generalize (w9.setCell ⟨w.heap.size, 0, none⟩ (.slice ao5 L5.length c5)) = wZ at hO9 hC9 hF9 kres ⊢
        exact bodyPost_ret (v := .tuple #[.agg #[.slice ao5 L5.length c5], .int .i64 _]) (by simp [results, Try.results163, go_sem, kres]; rfl) rfl ⟨_, L5, _, _, rfl, hO9, hC9, hF9⟩
      · have hC7 := hC8
        have hO7 := hO8
        have hF7 := hFw8.out
        have hBr7 := hBr8
        have kr7 := hBr7.cell (i := 0) (v := .slice none 0 0) rfl
        have fr7 := hBr7.free 0
        clear hBr8 hC8 hO8 hFw8
        go_wp2_with fail
        have hO9 := (Own.setCell_below hO7 (p := ⟨w.heap.size, 0, none⟩) (by show w.heap.size < _; omega) (.slice ao5 L5.length c5)).low (w0 := w) (by omega)
        have hC9 := hC7.other (b := w.heap.size) (i := 0) (by omega) (by omega) (.slice ao5 L5.length c5)
        have hF9 := hF7.set (b := w.heap.size) (Nat.le_refl _) 0 (.slice ao5 L5.length c5)
        have kres := (hBr7.set 0 (.slice ao5 L5.length c5)).cell (i := 0) (v := .slice ao5 L5.length c5) rfl
        clear kr7 fr7
        generalize (w8.setCell ⟨w.heap.size, 0, none⟩ (.slice ao5 L5.length c5)) = wZ at hO9 hC9 hF9 kres ⊢
        exact bodyPost_ret (v := .tuple #[.agg #[.slice ao5 L5.length c5], .int .i64 _]) (by simp [results, Try.results163, go_sem, kres]; rfl) rfl ⟨_, L5, _, _, rfl, hO9, hC9, hF9⟩
theorem DrawBoundaryOf_any (v : Value) (l : List Int) (w : World) (h : Byts w v l) :
    Calls Try.prog 84 #[v] w fun e w' => ∃ ao L c x0 x1, e = .returned (.tuple #[.agg #[.slice ao (List.length L) c], .int .i64 x0, .int .i64 x1]) ∧ Own 3 w w' (.slice ao (List.length L) c) L ∧ Ext w w' := by
  have hE0 := (Ext.refl w).alloc (.cells #[.slice none 0 0] 26)
  have hB0 : Blk (w.alloc (.cells #[.slice none 0 0] 26)) w.heap.size 26 #[.slice none 0 0] := Blk.new _ _ _
  obtain ⟨wA, hwA⟩ : ∃ x, x = w.alloc (.cells #[.slice none 0 0] 26) := ⟨_, rfl⟩
  have hsA : wA.heap.size = w.heap.size + 1 := by rw [hwA]; simp
  rw [← hwA] at hE0 hB0
  have HwA := Lib.hid hwA
  clear hwA
  go_enter Try.func84, Try.ntmps84
  go_wp2_with fail
  rw [← HwA.out]
  refine (l1New_any _ _ w _ h hE0).mono ?_
  rintro e w2 ⟨p, rfl, hC2, hE2, hpA⟩
  have hp2 := hC2.lt
  have hB2 := hB0.ext hE2
  go_wp2_with fail
  refine (l28Set_any w _ p 24 hC2).mono ?_
  rintro e w3 ⟨ao, L, c, x, rfl, hO3, hC3, hF3⟩
  have hB3 := hF3.blk hB2 (by omega)
  have hs3' := hF3.size
  have hpO := hp2.2
  clear hB0 hB2 hF3 hE2
  have hs3 := w3.heap.size
  have hBg7 : Blk (w3.alloc (.cells #[.slice ao L.length c] 26)) w3.heap.size 26 #[.slice ao L.length c] := Blk.new _ _ _
  have hBr7 := hB3.alloc (.cells #[.slice ao L.length c] 26)
  have hO7 := hO3.alloc (.cells #[.slice ao L.length c] 26)
  have hC7 := hC3.alloc (.cells #[.slice ao L.length c] 26)
  have hsw : (w3.alloc (.cells #[.slice ao L.length c] 26)).heap.size = w3.heap.size + 1 := by simp
  obtain ⟨w7, hw7⟩ : ∃ x, x = w3.alloc (.cells #[.slice ao L.length c] 26) := ⟨_, rfl⟩
  rw [← hw7] at hBg7 hBr7 hO7 hC7 hsw
  have Hw7 := Lib.hid hw7
  clear hw7 hs3 hB3 hO3 hC3
  have hE7 := (Ext.refl w7).drew
  have hO7D := hO7.ext hE7
  have hnot := own_not hO7 hBg7 (by decide)
  have hS0 : Cur w w7.drew p ∧ w7.drew.cell? ⟨w3.heap.size, 0, none⟩ = some (.slice ao L.length c) := ⟨hC7.ext hE7, (hBg7.ext hE7).cell rfl⟩
  go_wp2_with fail
  rw [← Hw7.out]
  first | (go_region_held3 (fun W => Cur w W p ∧ W.cell? ⟨w3.heap.size, 0, none⟩ = some (.slice ao L.length c)) (first | exact hS0 | exact hS1 | exact hS2) (first | (go_at_call 172; ((with_reducible refine Calls.mono (l3Set_any w _ w2 p _ _ hS0.1 hO7D hpO) ?_); rintro e w8 ⟨y, rfl, hb8, hC8, hF8⟩; have hBg8 := hF8.blk (hBg7.ext hE7) (by omega); have hBr8 := hF8.blk (hBr7.ext hE7) (by omega); have hO8 := hF8.own (hO7.ext hE7) hpO; have hS1 : Cur w w8 p ∧ w8.cell? ⟨w3.heap.size, 0, none⟩ = some (.slice ao L.length c) := ⟨hC8, hBg8.cell rfl⟩; have hS2 : Cur w (w8.setCell ⟨w.heap.size, 0, none⟩ (.slice ao L.length c)) p ∧ (w8.setCell ⟨w.heap.size, 0, none⟩ (.slice ao L.length c)).cell? ⟨w3.heap.size, 0, none⟩ = some (.slice ao L.length c) := ⟨hC8.other (by omega) (Nat.le_refl _) _, (hBg8.other (by simp; omega) _).cell rfl⟩; have kr8 := hBr8.cell (i := 0) (v := .slice none 0 0) rfl; have fr8 := hBr8.free 0)))) | (fail "the region")
  go_wp2_with fail
  have hO9 := (Own.setCell_below hO8 (p := ⟨w.heap.size, 0, none⟩) (by show w.heap.size < _; omega) (.slice ao L.length c)).low (w0 := w) (by omega)
  have hC9 := hS2.1.base
  have kres := (hBr8.set 0 (.slice ao L.length c)).cell (i := 0) (v := .slice ao L.length c) rfl
  clear hS2 kr8 fr8
  generalize w8.setCell ⟨w.heap.size, 0, none⟩ (.slice ao L.length c) = w9 at hO9 hC9 kres ⊢
  exact bodyPost_ret (v := .tuple #[.agg #[.slice ao L.length c], .int .i64 x, .int .i64 y]) (by simp [results, Try.results84, go_sem, kres]) rfl ⟨_, L, _, x, y, rfl, hO9, hC9⟩
theorem DrawIsIndependent_any (v : Value) (l : List Int) (w : World) (h : Byts w v l) :
    Calls Try.prog 94 #[v] w fun e w' => ∃ ao L c x0 x1, e = .returned (.tuple #[.agg #[.slice ao (List.length L) c], .int .i64 x0, .int .i64 x1]) ∧ Own 3 w w' (.slice ao (List.length L) c) L ∧ Ext w w' := by
  have hE0 := (Ext.refl w).alloc (.cells #[.slice none 0 0] 26)
  have hB0 : Blk (w.alloc (.cells #[.slice none 0 0] 26)) w.heap.size 26 #[.slice none 0 0] := Blk.new _ _ _
  obtain ⟨wA, hwA⟩ : ∃ x, x = w.alloc (.cells #[.slice none 0 0] 26) := ⟨_, rfl⟩
  have hsA : wA.heap.size = w.heap.size + 1 := by rw [hwA]; simp
  rw [← hwA] at hE0 hB0
  have HwA := Lib.hid hwA
  clear hwA
  go_enter Try.func94, Try.ntmps94
  go_wp2_with fail
  rw [← HwA.out]
  refine (l1New_any _ _ w _ h hE0).mono ?_
  rintro e w2 ⟨p, rfl, hC2, hE2, hpA⟩
  have hp2 := hC2.lt
  have hB2 := hB0.ext hE2
  go_wp2_with fail
  refine (l28Set_any w _ p 24 hC2).mono ?_
  rintro e w3 ⟨ao, L, c, x, rfl, hO3, hC3, hF3⟩
  have hB3 := hF3.blk hB2 (by omega)
  have hs3' := hF3.size
  have hpO := hp2.2
  clear hB0 hB2 hF3 hE2
  have hs3 := w3.heap.size
  have hBg7 : Blk (w3.alloc (.cells #[.slice ao L.length c] 26)) w3.heap.size 26 #[.slice ao L.length c] := Blk.new _ _ _
  have hBr7 := hB3.alloc (.cells #[.slice ao L.length c] 26)
  have hO7 := hO3.alloc (.cells #[.slice ao L.length c] 26)
  have hC7 := hC3.alloc (.cells #[.slice ao L.length c] 26)
  have hsw : (w3.alloc (.cells #[.slice ao L.length c] 26)).heap.size = w3.heap.size + 1 := by simp
  obtain ⟨w7, hw7⟩ : ∃ x, x = w3.alloc (.cells #[.slice ao L.length c] 26) := ⟨_, rfl⟩
  rw [← hw7] at hBg7 hBr7 hO7 hC7 hsw
  have Hw7 := Lib.hid hw7
  clear hw7 hs3 hB3 hO3 hC3
  have hE7 := (Ext.refl w7).drew
  have hO7D := hO7.ext hE7
  have hnot := own_not hO7 hBg7 (by decide)
  have hS0 : Cur w w7.drew p ∧ w7.drew.cell? ⟨w3.heap.size, 0, none⟩ = some (.slice ao L.length c) := ⟨hC7.ext hE7, (hBg7.ext hE7).cell rfl⟩
  go_wp2_with fail
  rw [← Hw7.out]
  first | (go_region_held3 (fun W => Cur w W p ∧ W.cell? ⟨w3.heap.size, 0, none⟩ = some (.slice ao L.length c)) (first | exact hS0 | exact hS1 | exact hS2) (first | (go_at_call 172; ((with_reducible refine Calls.mono (l3Set_any w _ w2 p _ _ hS0.1 hO7D hpO) ?_); rintro e w8 ⟨y, rfl, hb8, hC8, hF8⟩; have hBg8 := hF8.blk (hBg7.ext hE7) (by omega); have hBr8 := hF8.blk (hBr7.ext hE7) (by omega); have hO8 := hF8.own (hO7.ext hE7) hpO; have hS1 : Cur w w8 p ∧ w8.cell? ⟨w3.heap.size, 0, none⟩ = some (.slice ao L.length c) := ⟨hC8, hBg8.cell rfl⟩; have hS2 : Cur w (w8.setCell ⟨w.heap.size, 0, none⟩ (.slice ao L.length c)) p ∧ (w8.setCell ⟨w.heap.size, 0, none⟩ (.slice ao L.length c)).cell? ⟨w3.heap.size, 0, none⟩ = some (.slice ao L.length c) := ⟨hC8.other (by omega) (Nat.le_refl _) _, (hBg8.other (by simp; omega) _).cell rfl⟩; have kr8 := hBr8.cell (i := 0) (v := .slice none 0 0) rfl; have fr8 := hBr8.free 0)))) | (fail "the region")
  go_wp2_with fail
  have hO9 := (Own.setCell_below hO8 (p := ⟨w.heap.size, 0, none⟩) (by show w.heap.size < _; omega) (.slice ao L.length c)).low (w0 := w) (by omega)
  have hC9 := hS2.1.base
  have kres := (hBr8.set 0 (.slice ao L.length c)).cell (i := 0) (v := .slice ao L.length c) rfl
  clear hS2 kr8 fr8
  generalize w8.setCell ⟨w.heap.size, 0, none⟩ (.slice ao L.length c) = w9 at hO9 hC9 kres ⊢
  exact bodyPost_ret (v := .tuple #[.agg #[.slice ao L.length c], .int .i64 x, .int .i64 y]) (by simp [results, Try.results94, go_sem, kres]) rfl ⟨_, L, _, x, y, rfl, hO9, hC9⟩
theorem DrawDistanceInCayley_any (v : Value) (l : List Int) (w : World) (h : Byts w v l) :
    Calls Try.prog 75 #[v] w fun e w' => ∃ ao L c x0 x1 x2, e = .returned (.tuple #[.agg #[.slice ao (List.length L) c], .int .i64 x0, .int .i64 x1, .int .i64 x2]) ∧ Own 3 w w' (.slice ao (List.length L) c) L ∧ Ext w w' := by
  have hE0 := (Ext.refl w).alloc (.cells #[.slice none 0 0] 26)
  have hB0 : Blk (w.alloc (.cells #[.slice none 0 0] 26)) w.heap.size 26 #[.slice none 0 0] := Blk.new _ _ _
  obtain ⟨wA, hwA⟩ : ∃ x, x = w.alloc (.cells #[.slice none 0 0] 26) := ⟨_, rfl⟩
  have hsA : wA.heap.size = w.heap.size + 1 := by rw [hwA]; simp
  rw [← hwA] at hE0 hB0
  have HwA := Lib.hid hwA
  clear hwA
  go_enter Try.func75, Try.ntmps75
  go_wp2_with fail
  rw [← HwA.out]
  refine (l1New_any _ _ w _ h hE0).mono ?_
  rintro e w2 ⟨p, rfl, hC2, hE2, hpA⟩
  have hp2 := hC2.lt
  have hB2 := hB0.ext hE2
  go_wp2_with fail
  refine (l28Set_any w _ p 24 hC2).mono ?_
  rintro e w3 ⟨ao, L, c, x, rfl, hO3, hC3, hF3⟩
  have hB3 := hF3.blk hB2 (by omega)
  have hs3' := hF3.size
  have hpO := hp2.2
  clear hB0 hB2 hF3 hE2
  have hs3 := w3.heap.size
  have hBg7 : Blk (w3.alloc (.cells #[.slice ao L.length c] 26)) w3.heap.size 26 #[.slice ao L.length c] := Blk.new _ _ _
  have hBr7 := hB3.alloc (.cells #[.slice ao L.length c] 26)
  have hO7 := hO3.alloc (.cells #[.slice ao L.length c] 26)
  have hC7 := hC3.alloc (.cells #[.slice ao L.length c] 26)
  have hsw : (w3.alloc (.cells #[.slice ao L.length c] 26)).heap.size = w3.heap.size + 1 := by simp
  obtain ⟨w7, hw7⟩ : ∃ x, x = w3.alloc (.cells #[.slice ao L.length c] 26) := ⟨_, rfl⟩
  rw [← hw7] at hBg7 hBr7 hO7 hC7 hsw
  have Hw7 := Lib.hid hw7
  clear hw7 hs3 hB3 hO3 hC3
  have kg7 := hBg7.cell (i := 0) (v := .slice ao L.length c) rfl
  go_wp2_with fail
  rw [← Hw7.out]
  refine (l2Element_any w _ w2 p _ _ hC7 hO7 hpO).mono ?_
  rintro e w6 ⟨z, rfl, hz, hC6, hF6⟩
  have hs6 := hF6.size
  have hBr6 := hF6.blk hBr7 (by omega)
  have hBg6 := hF6.blk hBg7 (by omega)
  have hO6 := hF6.own hO7 hpO
  clear hBr7 hBg7 hO7 hC7 hF6 kg7
  have hBr7 := hBr6
  have hBg7 := hBg6
  have hO7 := hO6
  have hC7 := hC6
  clear hBr6 hBg6 hO6 hC6
  clear Hw7 hsw
  have hE7 := (Ext.refl w6).drew
  have hO7D := hO7.ext hE7
  have hnot := own_not hO7 hBg7 (by decide)
  have hS0 : Cur w w6.drew p ∧ w6.drew.cell? ⟨w3.heap.size, 0, none⟩ = some (.slice ao L.length c) := ⟨hC7.ext hE7, (hBg7.ext hE7).cell rfl⟩
  go_wp2_with fail
  skip
  first | (go_region_held3 (fun W => Cur w W p ∧ W.cell? ⟨w3.heap.size, 0, none⟩ = some (.slice ao L.length c)) (first | exact hS0 | exact hS1 | exact hS2) (first | (go_at_call 164; ((with_reducible refine Calls.mono (l2Element_any w _ w2 p _ _ hS0.1 hO7D hpO) ?_); rintro e w8 ⟨y, rfl, hb8, hC8, hF8⟩; have hBg8 := hF8.blk (hBg7.ext hE7) (by omega); have hBr8 := hF8.blk (hBr7.ext hE7) (by omega); have hO8 := hF8.own (hO7.ext hE7) hpO; have hS1 : Cur w w8 p ∧ w8.cell? ⟨w3.heap.size, 0, none⟩ = some (.slice ao L.length c) := ⟨hC8, hBg8.cell rfl⟩; have hS2 : Cur w (w8.setCell ⟨w.heap.size, 0, none⟩ (.slice ao L.length c)) p ∧ (w8.setCell ⟨w.heap.size, 0, none⟩ (.slice ao L.length c)).cell? ⟨w3.heap.size, 0, none⟩ = some (.slice ao L.length c) := ⟨hC8.other (by omega) (Nat.le_refl _) _, (hBg8.other (by simp; omega) _).cell rfl⟩; have kr8 := hBr8.cell (i := 0) (v := .slice none 0 0) rfl; have fr8 := hBr8.free 0)))) | (fail "the region")
  go_wp2_with fail
  have hO9 := (Own.setCell_below hO8 (p := ⟨w.heap.size, 0, none⟩) (by show w.heap.size < _; omega) (.slice ao L.length c)).low (w0 := w) (by omega)
  have hC9 := hS2.1.base
  have kres := (hBr8.set 0 (.slice ao L.length c)).cell (i := 0) (v := .slice ao L.length c) rfl
  clear hS2 kr8 fr8
  generalize w8.setCell ⟨w.heap.size, 0, none⟩ (.slice ao L.length c) = w9 at hO9 hC9 kres ⊢
  exact bodyPost_ret (v := .tuple #[.agg #[.slice ao L.length c], .int .i64 x, .int .i64 z, .int .i64 y]) (by simp [results, Try.results75, go_sem, kres]) rfl ⟨_, L, _, x, z, y, rfl, hO9, hC9⟩
theorem DrawLargestClique_any (v : Value) (l : List Int) (w : World) (h : Byts w v l) :
    Calls Try.prog 80 #[v] w fun e w' => ∃ ao L c x0, e = .returned (.tuple #[.agg #[.slice ao (List.length L) c], .int .i64 x0]) ∧ Own 3 w w' (.slice ao (List.length L) c) L ∧ Ext w w' := by
  have hE0 := (Ext.refl w).alloc (.cells #[.slice none 0 0] 26)
  have hB0 : Blk (w.alloc (.cells #[.slice none 0 0] 26)) w.heap.size 26 #[.slice none 0 0] := Blk.new _ _ _
  obtain ⟨wA, hwA⟩ : ∃ x, x = w.alloc (.cells #[.slice none 0 0] 26) := ⟨_, rfl⟩
  have hsA : wA.heap.size = w.heap.size + 1 := by rw [hwA]; simp
  rw [← hwA] at hE0 hB0
  have HwA := Lib.hid hwA
  clear hwA
  go_enter Try.func80, Try.ntmps80
  go_wp2_with fail
  rw [← HwA.out]
  refine (l1New_any _ _ w _ h hE0).mono ?_
  rintro e w2 ⟨p, rfl, hC2, hE2, hpA⟩
  have hp2 := hC2.lt
  have hB2 := hB0.ext hE2
  go_wp2_with fail
  refine (l28Set_any w _ p 12 hC2).mono ?_
  rintro e w3 ⟨ao, L, c, x, rfl, hO3, hC3, hF3⟩
  have hB3 := hF3.blk hB2 (by omega)
  have hs3 := hF3.size
  have hBr := hB3.alloc (.cells #[.slice ao L.length c] 26)
  have kr := hBr.cell (i := 0) (v := .slice none 0 0) rfl
  have fr := hBr.free 0
  have kg := (Blk.new w3 26 #[.slice ao L.length c]).cell (i := 0) (v := .slice ao L.length c) rfl
  have hO9 := (Own.setCell_below (hO3.alloc (.cells #[.slice ao L.length c] 26)) (p := ⟨w.heap.size, 0, none⟩) (by show w.heap.size < _; omega) (.slice ao L.length c)).low (w0 := w) (by omega)
  have hC9 := (hC3.base.alloc (.cells #[.slice ao L.length c] 26)).setCell (p := ⟨w.heap.size, 0, none⟩) (Nat.le_refl _) (.slice ao L.length c)
  have kres := (hBr.set 0 (.slice ao L.length c)).cell (i := 0) (v := .slice ao L.length c) rfl
  clear hB0 hB2 hF3 hE2 hB3 hs3
  go_wp2_with fail
  clear kr fr kg hBr
  generalize (w3.alloc (.cells #[.slice ao L.length c] 26)).setCell ⟨w.heap.size, 0, none⟩ (.slice ao L.length c) = w9 at hO9 hC9 kres ⊢
  exact bodyPost_ret (v := .tuple #[.agg #[.slice ao L.length c], .int .i64 x]) (by simp [results, Try.results80, go_sem, kres]) rfl ⟨_, L, _, x, rfl, hO9, hC9⟩
theorem DrawPartsOfCayley_any (v : Value) (l : List Int) (w : World) (h : Byts w v l) :
    Calls Try.prog 88 #[v] w fun e w' => ∃ ao L c x0, e = .returned (.tuple #[.agg #[.slice ao (List.length L) c], .int .i64 x0]) ∧ Own 3 w w' (.slice ao (List.length L) c) L ∧ Ext w w' := by
  have hE0 := (Ext.refl w).alloc (.cells #[.slice none 0 0] 26)
  have hB0 : Blk (w.alloc (.cells #[.slice none 0 0] 26)) w.heap.size 26 #[.slice none 0 0] := Blk.new _ _ _
  obtain ⟨wA, hwA⟩ : ∃ x, x = w.alloc (.cells #[.slice none 0 0] 26) := ⟨_, rfl⟩
  have hsA : wA.heap.size = w.heap.size + 1 := by rw [hwA]; simp
  rw [← hwA] at hE0 hB0
  have HwA := Lib.hid hwA
  clear hwA
  go_enter Try.func88, Try.ntmps88
  go_wp2_with fail
  rw [← HwA.out]
  refine (l1New_any _ _ w _ h hE0).mono ?_
  rintro e w2 ⟨p, rfl, hC2, hE2, hpA⟩
  have hp2 := hC2.lt
  have hB2 := hB0.ext hE2
  go_wp2_with fail
  refine (l28Set_any w _ p 24 hC2).mono ?_
  rintro e w3 ⟨ao, L, c, x, rfl, hO3, hC3, hF3⟩
  have hB3 := hF3.blk hB2 (by omega)
  have hs3 := hF3.size
  have hBr := hB3.alloc (.cells #[.slice ao L.length c] 26)
  have kr := hBr.cell (i := 0) (v := .slice none 0 0) rfl
  have fr := hBr.free 0
  have kg := (Blk.new w3 26 #[.slice ao L.length c]).cell (i := 0) (v := .slice ao L.length c) rfl
  have hO9 := (Own.setCell_below (hO3.alloc (.cells #[.slice ao L.length c] 26)) (p := ⟨w.heap.size, 0, none⟩) (by show w.heap.size < _; omega) (.slice ao L.length c)).low (w0 := w) (by omega)
  have hC9 := (hC3.base.alloc (.cells #[.slice ao L.length c] 26)).setCell (p := ⟨w.heap.size, 0, none⟩) (Nat.le_refl _) (.slice ao L.length c)
  have kres := (hBr.set 0 (.slice ao L.length c)).cell (i := 0) (v := .slice ao L.length c) rfl
  clear hB0 hB2 hF3 hE2 hB3 hs3
  go_wp2_with fail
  clear kr fr kg hBr
  generalize (w3.alloc (.cells #[.slice ao L.length c] 26)).setCell ⟨w.heap.size, 0, none⟩ (.slice ao L.length c) = w9 at hO9 hC9 kres ⊢
  exact bodyPost_ret (v := .tuple #[.agg #[.slice ao L.length c], .int .i64 x]) (by simp [results, Try.results88, go_sem, kres]) rfl ⟨_, L, _, x, rfl, hO9, hC9⟩
theorem DrawLeastExpansion_any (v : Value) (l : List Int) (w : World) (h : Byts w v l) :
    Calls Try.prog 95 #[v] w fun e w' => ∃ ao L c x0, e = .returned (.tuple #[.agg #[.slice ao (List.length L) c], .int .i64 x0]) ∧ Own 3 w w' (.slice ao (List.length L) c) L ∧ Ext w w' := by
  have hE0 := (Ext.refl w).alloc (.cells #[.slice none 0 0] 26)
  have hB0 : Blk (w.alloc (.cells #[.slice none 0 0] 26)) w.heap.size 26 #[.slice none 0 0] := Blk.new _ _ _
  obtain ⟨wA, hwA⟩ : ∃ x, x = w.alloc (.cells #[.slice none 0 0] 26) := ⟨_, rfl⟩
  have hsA : wA.heap.size = w.heap.size + 1 := by rw [hwA]; simp
  rw [← hwA] at hE0 hB0
  have HwA := Lib.hid hwA
  clear hwA
  go_enter Try.func95, Try.ntmps95
  go_wp2_with fail
  rw [← HwA.out]
  refine (l1New_any _ _ w _ h hE0).mono ?_
  rintro e w2 ⟨p, rfl, hC2, hE2, hpA⟩
  have hp2 := hC2.lt
  have hB2 := hB0.ext hE2
  go_wp2_with fail
  refine (l28Set_any w _ p 8 hC2).mono ?_
  rintro e w3 ⟨ao, L, c, x, rfl, hO3, hC3, hF3⟩
  have hB3 := hF3.blk hB2 (by omega)
  have hs3 := hF3.size
  have hBr := hB3.alloc (.cells #[.slice ao L.length c] 26)
  have kr := hBr.cell (i := 0) (v := .slice none 0 0) rfl
  have fr := hBr.free 0
  have kg := (Blk.new w3 26 #[.slice ao L.length c]).cell (i := 0) (v := .slice ao L.length c) rfl
  have hO9 := (Own.setCell_below (hO3.alloc (.cells #[.slice ao L.length c] 26)) (p := ⟨w.heap.size, 0, none⟩) (by show w.heap.size < _; omega) (.slice ao L.length c)).low (w0 := w) (by omega)
  have hC9 := (hC3.base.alloc (.cells #[.slice ao L.length c] 26)).setCell (p := ⟨w.heap.size, 0, none⟩) (Nat.le_refl _) (.slice ao L.length c)
  have kres := (hBr.set 0 (.slice ao L.length c)).cell (i := 0) (v := .slice ao L.length c) rfl
  clear hB0 hB2 hF3 hE2 hB3 hs3
  go_wp2_with fail
  clear kr fr kg hBr
  generalize (w3.alloc (.cells #[.slice ao L.length c] 26)).setCell ⟨w.heap.size, 0, none⟩ (.slice ao L.length c) = w9 at hO9 hC9 kres ⊢
  exact bodyPost_ret (v := .tuple #[.agg #[.slice ao L.length c], .int .i64 x]) (by simp [results, Try.results95, go_sem, kres]) rfl ⟨_, L, _, x, rfl, hO9, hC9⟩
end Go.Zz
