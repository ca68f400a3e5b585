/- The drawing of groups, elements and sets. -/
import Derived.Test.YtgjomoedgmofbaaDs
namespace Go.Zz
open Go.RowKit Go.Proofs
set_option maxHeartbeats 2000000
set_option maxRecDepth 8000

theorem l2Any_any (w0 w : World) (p : Nat) (h : Cur w0 w p) :
    Calls Try.prog 214 #[.pointer (some ⟨p, 0, none⟩)] w fun e w' => ∃ ao L c, e = .returned (.agg #[.slice ao (List.length L) c]) ∧ Own 3 w w' (.slice ao (List.length L) c) L ∧ Cur w0 w' p ∧ Drw p w w' := by
  have hp := h.lt
  have hB0 : Blk (w.alloc (.cells #[.slice none 0 0] 26)) w.heap.size 26 #[.slice none 0 0] := Blk.new _ _ _
  have hs0 : (w.alloc (.cells #[.slice none 0 0] 26)).heap.size = w.heap.size + 1 := by simp
  go_enter Try.func214, Try.ntmps214
  go_wp2_with fail
  refine (l2Draw_any w0 _ p 24 (h.alloc _)).mono ?_
  rintro e w2 ⟨ao, L, c, rfl, hO2, hC2, hF2⟩
  have hB2 := hF2.blk hB0 (by omega)
  have hsz2 := hF2.size
  have hF02 := (((Ext.refl w).alloc (.cells #[.slice none 0 0] 26)).drw p).trans hF2
  have hBg : Blk (w2.alloc (.cells #[.slice ao L.length c] 26)) w2.heap.size 26 #[.slice ao L.length c] := Blk.new _ _ _
  clear hB0 hF2
  go_wp2_with fail
  refine (l1Below_any w0 _ p 16 (by omega) (hC2.alloc _)).mono ?_
  rintro e w3 ⟨x, rfl, hb, hCr, hF3⟩
  obtain ⟨hx0, hx1⟩ := hb.2 (by omega)
  have hBr := hF3.blk (hB2.alloc (.cells #[.slice ao L.length c] 26)) (by omega)
  have hBg3 := hF3.blk hBg (by omega)
  have hO3 := hF3.own (hO2.alloc (.cells #[.slice ao L.length c] 26)) (by omega)
  have hsz3 := hF3.size
  have hsz4 : w2.heap.size + 1 = (w2.alloc (.cells #[.slice ao L.length c] 26)).heap.size := by simp
  have hFr := Lib.hid ((hF02.alloc (.cells #[.slice ao L.length c] 26)).trans hF3)
  clear hB2 hBg hO2 hF3 hF02
  by_cases e0 : x = 0
  · subst e0
    have hOl := own_made (TI := 3) (n := 5) (by omega) (Ext.refl w3) [0, 1, -1, 25, 9223372036854775807] rfl
    go_wp2_with fail
    refine (l1PickInt_any w0 _ w3 p _ _ (hCr.alloc _) hOl (by omega) (by decide) (by decide)).mono ?_
    rintro e w4 ⟨k, hk, rfl, hC4, hF4⟩
    have hBr4 := hF4.blk (hBr.alloc _) (by omega)
    have hFr4 := Lib.hid ((hFr.out.alloc _).trans hF4)
    have hsz5 := hF4.size
    obtain ⟨y, hy⟩ : ∃ y, y = nth [0, 1, -1, 25, 9223372036854775807] k := ⟨_, rfl⟩
    rw [← hy]
    clear hy hBr hFr hCr hF4 hOl hk
    have hBr := hBr4
    have hFr := hFr4
    have hCr := hC4
    clear hBr4 hFr4 hC4
    have hsw := hBr.lt
    have hBn := hBr.alloc (.cells #[.int .i64 y] 3)
    have kbn := hBn.cell (i := 0) (v := .slice none 0 0) rfl
    have fbn := hBn.free 0
    go_wp2_with fail
    clear kbn fbn hBn
    have hs5 : (w4.setCell ⟨w.heap.size, 0, none⟩ (.slice (some ⟨w4.heap.size, 0, none⟩) 1 1)).heap.size = w4.heap.size := by simp
    have hO5 := (own_made (TI := 3) (n := 1) (by omega) (Ext.refl (w4.setCell ⟨w.heap.size, 0, none⟩ (.slice (some ⟨w4.heap.size, 0, none⟩) 1 1))) [y] rfl).low (w0 := w) (by have := hBr.lt; omega)
    rw [hs5] at hO5
    have hC5 := (hCr.other (b := w.heap.size) (i := 0) (by omega) (by omega) (.slice (some ⟨w4.heap.size, 0, none⟩) 1 1)).alloc (.cells #[.int .i64 y] 3)
    have hF5 := (hFr.out.set (Nat.le_refl _) 0 (.slice (some ⟨w4.heap.size, 0, none⟩) 1 1)).alloc (.cells #[.int .i64 y] 3)
    have kres := ((hBr.set 0 (.slice (some ⟨w4.heap.size, 0, none⟩) 1 1)).alloc (.cells #[.int .i64 y] 3)).cell (i := 0) (v := .slice (some ⟨w4.heap.size, 0, none⟩) 1 1) rfl
    change Own _ _ (World.alloc _ (.cells #[.int .i64 y] _)) _ _ at hO5
    generalize (w4.setCell ⟨w.heap.size, 0, none⟩ (.slice (some ⟨w4.heap.size, 0, none⟩) 1 1)).alloc (.cells #[.int .i64 y] 3) = w5 at kres hO5 hC5 hF5 ⊢
    refine bodyPost_ret (v := .agg #[.slice (some ⟨w4.heap.size, 0, none⟩) 1 1]) (by simp [results, Try.results214, go_sem, kres]) rfl ⟨_, [y], _, rfl, hO5, hC5, hF5⟩
  · have h0 : (x == 0) = false := by rw [beq_eq_false_iff_ne]; exact e0
    by_cases e1 : x = 1
    · subst e1
      have hsw := hBr.lt
      have hBn := hBr.alloc (.cells #[.int .i64 2,.int .i64 2,.int .i64 2,.int .i64 2] 3)
      have kbn := hBn.cell (i := 0) (v := .slice none 0 0) rfl
      have fbn := hBn.free 0
      go_wp2_with fail
      clear kbn fbn hBn
      have hs5 : (w3.setCell ⟨w.heap.size, 0, none⟩ (.slice (some ⟨w3.heap.size, 0, none⟩) 4 4)).heap.size = w3.heap.size := by simp
      have hO5 := (own_made (TI := 3) (n := 4) (by omega) (Ext.refl (w3.setCell ⟨w.heap.size, 0, none⟩ (.slice (some ⟨w3.heap.size, 0, none⟩) 4 4))) [2,2,2,2] rfl).low (w0 := w) (by have := hBr.lt; omega)
      rw [hs5] at hO5
      have hC5 := (hCr.other (b := w.heap.size) (i := 0) (by omega) (by omega) (.slice (some ⟨w3.heap.size, 0, none⟩) 4 4)).alloc (.cells #[.int .i64 2,.int .i64 2,.int .i64 2,.int .i64 2] 3)
      have hF5 := (hFr.out.set (Nat.le_refl _) 0 (.slice (some ⟨w3.heap.size, 0, none⟩) 4 4)).alloc (.cells #[.int .i64 2,.int .i64 2,.int .i64 2,.int .i64 2] 3)
      have kres := ((hBr.set 0 (.slice (some ⟨w3.heap.size, 0, none⟩) 4 4)).alloc (.cells #[.int .i64 2,.int .i64 2,.int .i64 2,.int .i64 2] 3)).cell (i := 0) (v := .slice (some ⟨w3.heap.size, 0, none⟩) 4 4) rfl
      change Own _ _ (World.alloc _ (.cells #[.int .i64 2,.int .i64 2,.int .i64 2,.int .i64 2] _)) _ _ at hO5
      generalize (w3.setCell ⟨w.heap.size, 0, none⟩ (.slice (some ⟨w3.heap.size, 0, none⟩) 4 4)).alloc (.cells #[.int .i64 2,.int .i64 2,.int .i64 2,.int .i64 2] 3) = w5 at kres hO5 hC5 hF5 ⊢
      refine bodyPost_ret (v := .agg #[.slice (some ⟨w3.heap.size, 0, none⟩) 4 4]) (by simp [results, Try.results214, go_sem, kres]) rfl ⟨_, [2,2,2,2], _, rfl, hO5, hC5, hF5⟩
    · have h1 : (x == 1) = false := by rw [beq_eq_false_iff_ne]; exact e1
      by_cases e2 : x = 2
      · subst e2
        have hsw := hBr.lt
        have hBn := hBr.alloc (.cells #[.int .i64 5,.int .i64 5] 3)
        have kbn := hBn.cell (i := 0) (v := .slice none 0 0) rfl
        have fbn := hBn.free 0
        go_wp2_with fail
        clear kbn fbn hBn
        have hs5 : (w3.setCell ⟨w.heap.size, 0, none⟩ (.slice (some ⟨w3.heap.size, 0, none⟩) 2 2)).heap.size = w3.heap.size := by simp
        have hO5 := (own_made (TI := 3) (n := 2) (by omega) (Ext.refl (w3.setCell ⟨w.heap.size, 0, none⟩ (.slice (some ⟨w3.heap.size, 0, none⟩) 2 2))) [5,5] rfl).low (w0 := w) (by have := hBr.lt; omega)
        rw [hs5] at hO5
        have hC5 := (hCr.other (b := w.heap.size) (i := 0) (by omega) (by omega) (.slice (some ⟨w3.heap.size, 0, none⟩) 2 2)).alloc (.cells #[.int .i64 5,.int .i64 5] 3)
        have hF5 := (hFr.out.set (Nat.le_refl _) 0 (.slice (some ⟨w3.heap.size, 0, none⟩) 2 2)).alloc (.cells #[.int .i64 5,.int .i64 5] 3)
        have kres := ((hBr.set 0 (.slice (some ⟨w3.heap.size, 0, none⟩) 2 2)).alloc (.cells #[.int .i64 5,.int .i64 5] 3)).cell (i := 0) (v := .slice (some ⟨w3.heap.size, 0, none⟩) 2 2) rfl
        change Own _ _ (World.alloc _ (.cells #[.int .i64 5,.int .i64 5] _)) _ _ at hO5
        generalize (w3.setCell ⟨w.heap.size, 0, none⟩ (.slice (some ⟨w3.heap.size, 0, none⟩) 2 2)).alloc (.cells #[.int .i64 5,.int .i64 5] 3) = w5 at kres hO5 hC5 hF5 ⊢
        refine bodyPost_ret (v := .agg #[.slice (some ⟨w3.heap.size, 0, none⟩) 2 2]) (by simp [results, Try.results214, go_sem, kres]) rfl ⟨_, [5,5], _, rfl, hO5, hC5, hF5⟩
      · have h2 : (x == 2) = false := by rw [beq_eq_false_iff_ne]; exact e2
        have kr := hBr.cell (i := 0) (v := .slice none 0 0) rfl
        have fr := hBr.free 0
        have kg := hBg3.cell (i := 0) (v := .slice ao L.length c) rfl
        have kres := (hBr.set 0 (.slice ao L.length c)).cell (i := 0) (v := .slice ao L.length c) rfl
        have hO5 : Own 3 w (w3.setCell ⟨w.heap.size, 0, none⟩ (.slice ao L.length c)) (.slice ao L.length c) L := (hO3.setCell_below (p := ⟨w.heap.size, 0, none⟩) (by rw [hs0]; exact Nat.lt_succ_self _) _).low (by omega)
        have hC5 := hCr.other (b := w.heap.size) (i := 0) (by omega) (by omega) (.slice ao L.length c)
        have hF5 := hFr.out.set (Nat.le_refl _) 0 (.slice ao L.length c)
        go_wp2_with fail
        generalize w3.setCell ⟨w.heap.size, 0, none⟩ (.slice ao L.length c) = w5 at kres hO5 hC5 hF5 ⊢
        refine bodyPost_ret (v := .agg #[.slice ao L.length c]) (by simp [results, Try.results214, go_sem, kres]) rfl ⟨_, L, _, rfl, hO5, hC5, hF5⟩
/-- an element that is drawn -/
theorem l2Element_any (w0 w wA : World) (p : Nat) (v : Value) (L : List Int) (h : Cur w0 w p) (hO : Own 3 wA w v L) (hpA : p < wA.heap.size) :
    Calls Try.prog 164 #[.pointer (some ⟨p, 0, none⟩), .agg #[v]] w fun e w' => ∃ x, e = .returned (.int .i64 x) ∧ (-9223372036854775808 ≤ x ∧ x ≤ 9223372036854775807) ∧ Cur w0 w' p ∧ Drw p w w' := by
  have hp := h.lt
  have hB0 : Blk (w.alloc (.cells #[v] 26)) w.heap.size 26 #[v] := Blk.new _ _ _
  have hO0 := hO.alloc (.cells #[v] 26)
  go_enter Try.func164, Try.ntmps164
  go_wp2_with fail
  refine (l1Once_any w0 _ p 16 (by omega) (h.alloc _)).mono ?_
  rintro e w2 ⟨b, rfl, hC2, hF2⟩
  have hB2 := hF2.blk hB0 (by omega)
  have hO2 := hF2.own hO0 hpA
  have hF02 := Lib.hid ((((Ext.refl w).alloc (.cells #[v] 26)).drw p).trans hF2)
  have hsz2 := hF2.size
  have hsz1 : (w.alloc (.cells #[v] 26)).heap.size = w.heap.size + 1 := by simp
  clear hO hO0 hB0 hF2
  cases b
  · have kb := hB2.cell (i := 0) (v := v) rfl
    have hob := ordF_bd L
    go_wp2_with fail
    refine (sOrderOf_any _ L _ hO2.ints).mono ?_
    rintro e w3 ⟨rfl, hE3⟩
    obtain ⟨n, hn⟩ : ∃ n, n = ordF L := ⟨_, rfl⟩
    rw [← hn] at hob ⊢
    have hC3 := hC2.ext hE3
    have hF3 := Lib.hid (hF02.out.trans (hE3.drw p))
    clear hn
    by_cases h1n : 1 < n
    · go_wp2_with fail
      refine (l1Below_any w0 _ p n (by omega) hC3).mono ?_
      rintro e w4 ⟨x, rfl, hb, hC4, hF4⟩
      have hx := hb.2 (by omega)
      have hF4' := hF3.out.trans hF4
      go_wp2_with fail
      go_ret
      exact ⟨_, rfl, ⟨by omega, by omega⟩, hC4, hF4'⟩
    · go_wp2_with fail
      refine (l1Below_any w0 _ p 1 (by omega) hC3).mono ?_
      rintro e w4 ⟨x, rfl, hb, hC4, hF4⟩
      have hx := hb.2 (by omega)
      have hF4' := hF3.out.trans hF4
      go_wp2_with fail
      go_ret
      exact ⟨_, rfl, ⟨by omega, by omega⟩, hC4, hF4'⟩
  · have hOl := own_made (TI := 3) (n := 3) (by omega) (Ext.refl w2) [-1, 24, 9223372036854775807] rfl
    go_wp2_with fail
    refine (l1PickInt_any w0 _ w2 p _ _ (hC2.alloc _) hOl (by omega) (by decide) (by decide)).mono ?_
    rintro e w4 ⟨k, hk, rfl, hC4, hF4⟩
    have hF4' := (hF02.out.alloc _).trans hF4
    have hy : -9223372036854775808 ≤ nth [-1, 24, 9223372036854775807] k ∧ nth [-1, 24, 9223372036854775807] k ≤ 9223372036854775807 := by
      have : k = 0 ∨ k = 1 ∨ k = 2 := by simp at hk; omega
      rcases this with rfl | rfl | rfl <;> decide
    obtain ⟨y, hyd⟩ : ∃ y, y = nth [-1, 24, 9223372036854775807] k := ⟨_, rfl⟩
    rw [← hyd] at hy ⊢
    clear hyd hOl
    go_wp2_with fail
    go_ret
    exact ⟨_, rfl, hy, hC4, hF4'⟩
/-- a set that is drawn -/
theorem l3Set_any (w0 w wA : World) (p : Nat) (v : Value) (L : List Int) (h : Cur w0 w p) (hO : Own 3 wA w v L) (hpA : p < wA.heap.size) :
    Calls Try.prog 172 #[.pointer (some ⟨p, 0, none⟩), .agg #[v]] w fun e w' => ∃ x, e = .returned (.int .i64 x) ∧ (-9223372036854775808 ≤ x ∧ x ≤ 9223372036854775807) ∧ Cur w0 w' p ∧ Drw p w w' := by
  have hp := h.lt
  have hB0 : Blk (w.alloc (.cells #[v] 26)) w.heap.size 26 #[v] := Blk.new _ _ _
  have kb := hB0.cell (i := 0) (v := v) rfl
  have hO0 := hO.alloc (.cells #[v] 26)
  have hob := ordF_bd L
  go_enter Try.func172, Try.ntmps172
  go_wp2_with fail
  refine (sOrderOf_any _ L _ hO0.ints).mono ?_
  rintro e w1 ⟨rfl, hE1⟩
  obtain ⟨n, hn⟩ : ∃ n, n = ordF L := ⟨_, rfl⟩
  rw [← hn] at hob ⊢
  have hC1 := (h.alloc (.cells #[v] 26)).ext hE1
  have hF1 := Lib.hid (((((Ext.refl w).alloc (.cells #[v] 26))).trans hE1).drw p)
  have hsz2 := hE1.size
  have hsz1 : (w.alloc (.cells #[v] 26)).heap.size = w.heap.size + 1 := by simp
  clear hO hO0 hB0 kb hE1 hn
  obtain ⟨m, rfl⟩ := Int.eq_ofNat_of_zero_le hob.1
  have hm24 : m ≤ 24 := by omega
  have hP1 := pw_pos m
  have hP2 := pw_le hm24
  have hq := ishl_one (n := m) (by omega)
  by_cases h1n : 1 < (m : Int)
  · go_wp2_with fail
    refine (l1Below_any w0 _ p 6 (by omega) hC1).mono ?_
    rintro e w2 ⟨x, rfl, hb, hC2, hF2⟩
    obtain ⟨hx0, hx1⟩ := hb.2 (by omega)
    have hF2' := Lib.hid (hF1.out.trans hF2)
    have hsz3 := hF2.size
    clear hF1 hC1 hF2 hb
    go_wp2_with fail
    go_loopw [6, 7] (fun sa sk wr => ∃ (k : Int) (a : Nat), a < 2 ^ 24 ∧ 0 ≤ k ∧ k ≤ 6 ∧ sk = .int .i64 k ∧ sa = .int .i64 a ∧ Cur w0 wr p ∧ Hid (Drw p w wr) ∧ w2.heap.size ≤ wr.heap.size) (fun _ sk _ => (intOf sk).toNat)
    case atStart => exact ⟨x, 0, by decide, hx0, by omega, rfl, rfl, hC2, hF2', Nat.le_refl _⟩
    case round =>
      rename World => wr
      clear hC2 hF2' hx0 hx1
      obtain ⟨k, a, ha, hk0, hk6, rfl, rfl, hC, hF, hsz4⟩ := hrel
      by_cases hlt : 0 < k
      · go_wp2_with fail
        refine (l1Below_any w0 _ p (m:Int) (by omega) hC).mono ?_
        rintro e w3 ⟨y, rfl, hb, hC3, hF3⟩
        obtain ⟨hy0, hy1⟩ := hb.2 (by omega)
        obtain ⟨z, rfl⟩ := Int.eq_ofNat_of_zero_le hy0
        have hz : z < 24 := by omega
        have q1 := ishl_one (n := z) (by omega)
        have q2 := ior_pw ha hz
        have ha2 : a ||| 2 ^ z < 2 ^ 24 := Nat.or_lt_two_pow ha (Nat.pow_lt_pow_right (by omega) hz)
        have hF3' := Lib.hid (hF.out.trans hF3)
        have hsz5 := hF3.size
        clear hb hF3
        go_wp2_with fail
        go_roundw
        case rel => exact ⟨k - 1, a ||| 2 ^ z, ha2, by omega, by omega, by go_num, rfl, hC3, hF3', by omega⟩
        case measure => (simp [intOf]; omega)
      · go_wp2_with fail
        refine (l1Below_any w0 _ p 20 (by omega) hC).mono ?_
        rintro e w3 ⟨y, rfl, hb, hC3, hF3⟩
        obtain ⟨hy0, hy1⟩ := hb.2 (by omega)
        have hF3' := Lib.hid (hF.out.trans hF3)
        have hsz5 := hF3.size
        clear hb hF3
        by_cases e0 : y = 0
        · subst e0
          skip
          go_wp2_with fail
          go_ret
          exact ⟨_, rfl, ⟨by omega, by omega⟩, hC3, hF3'.out⟩
        · have h0 : (y == 0) = false := by rw [beq_eq_false_iff_ne]; exact e0
          by_cases e1 : y = 1
          · subst e1
            have hOl := own_made (TI := 3) (n := 3) (by omega) (Ext.refl w3) [-1, 16777216, 9223372036854775807] rfl
            go_wp2_with fail
            refine (l1PickInt_any w0 _ w3 p _ _ (hC3.alloc _) hOl (by omega) (by decide) (by decide)).mono ?_
            rintro e w4 ⟨j, hj, rfl, hC4, hF4⟩
            have hF4' := (hF3'.out.alloc _).trans hF4
            have hy : -9223372036854775808 ≤ nth [-1, 16777216, 9223372036854775807] j ∧ nth [-1, 16777216, 9223372036854775807] j ≤ 9223372036854775807 := by
              have : j = 0 ∨ j = 1 ∨ j = 2 := by simp at hj; omega
              rcases this with rfl | rfl | rfl <;> decide
            obtain ⟨y, hyd⟩ : ∃ y, y = nth [-1, 16777216, 9223372036854775807] j := ⟨_, rfl⟩
            rw [← hyd] at hy ⊢
            clear hyd hOl
            go_wp2_with fail
            go_ret
            exact ⟨_, rfl, hy, hC4, hF4'⟩
          · have h1 : (y == 1) = false := by rw [beq_eq_false_iff_ne]; exact e1
            go_wp2_with fail
            go_ret
            exact ⟨_, rfl, ⟨by omega, by omega⟩, hC3, hF3'.out⟩
  · go_wp2_with fail
    refine (l1Below_any w0 _ p 6 (by omega) hC1).mono ?_
    rintro e w2 ⟨x, rfl, hb, hC2, hF2⟩
    obtain ⟨hx0, hx1⟩ := hb.2 (by omega)
    have hF2' := Lib.hid (hF1.out.trans hF2)
    have hsz3 := hF2.size
    clear hF1 hC1 hF2 hb
    go_wp2_with fail
    go_loopw [6, 7] (fun sa sk wr => ∃ (k : Int) (a : Nat), a < 2 ^ 24 ∧ 0 ≤ k ∧ k ≤ 6 ∧ sk = .int .i64 k ∧ sa = .int .i64 a ∧ Cur w0 wr p ∧ Hid (Drw p w wr) ∧ w2.heap.size ≤ wr.heap.size) (fun _ sk _ => (intOf sk).toNat)
    case atStart => exact ⟨x, 0, by decide, hx0, by omega, rfl, rfl, hC2, hF2', Nat.le_refl _⟩
    case round =>
      rename World => wr
      clear hC2 hF2' hx0 hx1
      obtain ⟨k, a, ha, hk0, hk6, rfl, rfl, hC, hF, hsz4⟩ := hrel
      by_cases hlt : 0 < k
      · go_wp2_with fail
        refine (l1Below_any w0 _ p 1 (by omega) hC).mono ?_
        rintro e w3 ⟨y, rfl, hb, hC3, hF3⟩
        obtain ⟨hy0, hy1⟩ := hb.2 (by omega)
        obtain ⟨z, rfl⟩ := Int.eq_ofNat_of_zero_le hy0
        have hz : z < 24 := by omega
        have q1 := ishl_one (n := z) (by omega)
        have q2 := ior_pw ha hz
        have ha2 : a ||| 2 ^ z < 2 ^ 24 := Nat.or_lt_two_pow ha (Nat.pow_lt_pow_right (by omega) hz)
        have hF3' := Lib.hid (hF.out.trans hF3)
        have hsz5 := hF3.size
        clear hb hF3
        go_wp2_with fail
        go_roundw
        case rel => exact ⟨k - 1, a ||| 2 ^ z, ha2, by omega, by omega, by go_num, rfl, hC3, hF3', by omega⟩
        case measure => (simp [intOf]; omega)
      · go_wp2_with fail
        refine (l1Below_any w0 _ p 20 (by omega) hC).mono ?_
        rintro e w3 ⟨y, rfl, hb, hC3, hF3⟩
        obtain ⟨hy0, hy1⟩ := hb.2 (by omega)
        have hF3' := Lib.hid (hF.out.trans hF3)
        have hsz5 := hF3.size
        clear hb hF3
        by_cases e0 : y = 0
        · subst e0
          have hq1 : ishl 1 1 = 2 := by decide
          go_wp2_with fail
          go_ret
          exact ⟨_, rfl, ⟨by omega, by omega⟩, hC3, hF3'.out⟩
        · have h0 : (y == 0) = false := by rw [beq_eq_false_iff_ne]; exact e0
          by_cases e1 : y = 1
          · subst e1
            have hOl := own_made (TI := 3) (n := 3) (by omega) (Ext.refl w3) [-1, 16777216, 9223372036854775807] rfl
            go_wp2_with fail
            refine (l1PickInt_any w0 _ w3 p _ _ (hC3.alloc _) hOl (by omega) (by decide) (by decide)).mono ?_
            rintro e w4 ⟨j, hj, rfl, hC4, hF4⟩
            have hF4' := (hF3'.out.alloc _).trans hF4
            have hy : -9223372036854775808 ≤ nth [-1, 16777216, 9223372036854775807] j ∧ nth [-1, 16777216, 9223372036854775807] j ≤ 9223372036854775807 := by
              have : j = 0 ∨ j = 1 ∨ j = 2 := by simp at hj; omega
              rcases this with rfl | rfl | rfl <;> decide
            obtain ⟨y, hyd⟩ : ∃ y, y = nth [-1, 16777216, 9223372036854775807] j := ⟨_, rfl⟩
            rw [← hyd] at hy ⊢
            clear hyd hOl
            go_wp2_with fail
            go_ret
            exact ⟨_, rfl, hy, hC4, hF4'⟩
          · have h1 : (y == 1) = false := by rw [beq_eq_false_iff_ne]; exact e1
            go_wp2_with fail
            go_ret
            exact ⟨_, rfl, ⟨by omega, by omega⟩, hC3, hF3'.out⟩
end Go.Zz
