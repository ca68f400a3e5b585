/- The drawing of groups, elements and sets. -/
import Derived.Test.YtgkojfjbfmpaaaaGreatGr11
import Derived.Test.YtgkojfjbfmpaaaaGreatGr4
import Derived.Test.YtgkojfjbfmpaaaaGreatGr7
import Derived.Test.YtgkojfjbfmpaaaaGreatGr3
import Derived.Test.YtgkojfjbfmpaaaaGreatGr6
import Derived.Test.YtgkojfjbfmpaaaaGreatGr5
import Derived.Deep.DeepCutAuto
namespace Go.Zz
open Go.RowKit Go.Proofs
set_option maxHeartbeats 2000000
set_option maxRecDepth 8000

theorem l2Any_any (w0 w : World) (p : Nat) (h : Cur w0 w p) :
    Calls Tryz.prog 96 #[.pointer (some ⟨p, 0, none⟩)] w fun e w' => ∃ ao L c, e = .returned (.agg #[.slice ao (List.length L) c]) ∧ Own 3 w w' (.slice ao (List.length L) c) L ∧ Cur w0 w' p ∧ Drw p w w' := by
  have hp := h.lt
  have hB0 : Blk (w.alloc (.cells #[.slice none 0 0] 26)) w.heap.size 26 #[.slice none 0 0] := Blk.new _ _ _
  have hs0 : (w.alloc (.cells #[.slice none 0 0] 26)).heap.size = w.heap.size + 1 := by simp
  go_enter Tryz.func96, Tryz.ntmps96
  go_wp2_with fail
  refine (l2Draw_any w0 _ p 24 (h.alloc _)).mono ?_
  rintro e w2 ⟨ao, L, c, rfl, hO2, hC2, hF2⟩
  have hB2 := hF2.blk hB0 (by omega)
  have hsz2 := hF2.size
  have hF02 := (((Ext.refl w).alloc (.cells #[.slice none 0 0] 26)).drw p).trans hF2
  have hBg : Blk (w2.alloc (.cells #[.slice ao L.length c] 26)) w2.heap.size 26 #[.slice ao L.length c] := Blk.new _ _ _
  clear hB0 hF2
  go_wp2_with fail
  refine (l1Below_any w0 _ p 16 (by omega) (hC2.alloc _)).mono ?_
  rintro e w3 ⟨x, rfl, hb, hCr, hF3⟩
  obtain ⟨hx0, hx1⟩ := hb.2 (by omega)
  have hBr := hF3.blk (hB2.alloc (.cells #[.slice ao L.length c] 26)) (by omega)
  have hBg3 := hF3.blk hBg (by omega)
  have hO3 := hF3.own (hO2.alloc (.cells #[.slice ao L.length c] 26)) (by omega)
  have hsz3 := hF3.size
  have hsz4 : w2.heap.size + 1 = (w2.alloc (.cells #[.slice ao L.length c] 26)).heap.size := by simp
  have hFr := Lib.hid ((hF02.alloc (.cells #[.slice ao L.length c] 26)).trans hF3)
  clear hB2 hBg hO2 hF3 hF02
  by_cases e0 : x = 0
  · subst e0
    have hOl := own_made (TI := 3) (n := 5) (by omega) (Ext.refl w3) [0, 1, -1, 25, 9223372036854775807] rfl
    go_wp2_with fail
    refine (l1PickInt_any w0 _ w3 p _ _ (hCr.alloc _) hOl (by omega) (by decide) (by decide)).mono ?_
    rintro e w4 ⟨k, hk, rfl, hC4, hF4⟩
    have hBr4 := hF4.blk (hBr.alloc _) (by omega)
    have hFr4 := Lib.hid ((hFr.out.alloc _).trans hF4)
    have hsz5 := hF4.size
    obtain ⟨y, hy⟩ : ∃ y, y = nth [0, 1, -1, 25, 9223372036854775807] k := ⟨_, rfl⟩
    rw [← hy]
    clear hy hBr hFr hCr hF4 hOl hk
    have hBr := hBr4
    have hFr := hFr4
    have hCr := hC4
    clear hBr4 hFr4 hC4
    have hsw := hBr.lt
    have hBn := hBr.alloc (.cells #[.int .i64 y] 3)
    have kbn := hBn.cell (i := 0) (v := .slice none 0 0) rfl
    have fbn := hBn.free 0
    go_wp2_with fail
    clear kbn fbn hBn
    have hs5 : (w4.setCell ⟨w.heap.size, 0, none⟩ (.slice (some ⟨w4.heap.size, 0, none⟩) 1 1)).heap.size = w4.heap.size := by simp
    have hO5 := (own_made (TI := 3) (n := 1) (by omega) (Ext.refl (w4.setCell ⟨w.heap.size, 0, none⟩ (.slice (some ⟨w4.heap.size, 0, none⟩) 1 1))) [y] rfl).low (w0 := w) (by have := hBr.lt; omega)
    rw [hs5] at hO5
    have hC5 := (hCr.other (b := w.heap.size) (i := 0) (by omega) (by omega) (.slice (some ⟨w4.heap.size, 0, none⟩) 1 1)).alloc (.cells #[.int .i64 y] 3)
    have hF5 := (hFr.out.set (Nat.le_refl _) 0 (.slice (some ⟨w4.heap.size, 0, none⟩) 1 1)).alloc (.cells #[.int .i64 y] 3)
    have kres := ((hBr.set 0 (.slice (some ⟨w4.heap.size, 0, none⟩) 1 1)).alloc (.cells #[.int .i64 y] 3)).cell (i := 0) (v := .slice (some ⟨w4.heap.size, 0, none⟩) 1 1) rfl
    change Own _ _ (World.alloc _ (.cells #[.int .i64 y] _)) _ _ at hO5
    generalize (w4.setCell ⟨w.heap.size, 0, none⟩ (.slice (some ⟨w4.heap.size, 0, none⟩) 1 1)).alloc (.cells #[.int .i64 y] 3) = w5 at kres hO5 hC5 hF5 ⊢
    refine bodyPost_ret (v := .agg #[.slice (some ⟨w4.heap.size, 0, none⟩) 1 1]) (by simp [results, Tryz.results96, go_sem, kres]) rfl ⟨_, [y], _, rfl, hO5, hC5, hF5⟩
  · have h0 : (x == 0) = false := by rw [beq_eq_false_iff_ne]; exact e0
    by_cases e1 : x = 1
    · subst e1
      have hsw := hBr.lt
      have hBn := hBr.alloc (.cells #[.int .i64 2,.int .i64 2,.int .i64 2,.int .i64 2] 3)
      have kbn := hBn.cell (i := 0) (v := .slice none 0 0) rfl
      have fbn := hBn.free 0
      go_wp2_with fail
      clear kbn fbn hBn
      have hs5 : (w3.setCell ⟨w.heap.size, 0, none⟩ (.slice (some ⟨w3.heap.size, 0, none⟩) 4 4)).heap.size = w3.heap.size := by simp
      have hO5 := (own_made (TI := 3) (n := 4) (by omega) (Ext.refl (w3.setCell ⟨w.heap.size, 0, none⟩ (.slice (some ⟨w3.heap.size, 0, none⟩) 4 4))) [2,2,2,2] rfl).low (w0 := w) (by have := hBr.lt; omega)
      rw [hs5] at hO5
      have hC5 := (hCr.other (b := w.heap.size) (i := 0) (by omega) (by omega) (.slice (some ⟨w3.heap.size, 0, none⟩) 4 4)).alloc (.cells #[.int .i64 2,.int .i64 2,.int .i64 2,.int .i64 2] 3)
      have hF5 := (hFr.out.set (Nat.le_refl _) 0 (.slice (some ⟨w3.heap.size, 0, none⟩) 4 4)).alloc (.cells #[.int .i64 2,.int .i64 2,.int .i64 2,.int .i64 2] 3)
      have kres := ((hBr.set 0 (.slice (some ⟨w3.heap.size, 0, none⟩) 4 4)).alloc (.cells #[.int .i64 2,.int .i64 2,.int .i64 2,.int .i64 2] 3)).cell (i := 0) (v := .slice (some ⟨w3.heap.size, 0, none⟩) 4 4) rfl
      change Own _ _ (World.alloc _ (.cells #[.int .i64 2,.int .i64 2,.int .i64 2,.int .i64 2] _)) _ _ at hO5
      generalize (w3.setCell ⟨w.heap.size, 0, none⟩ (.slice (some ⟨w3.heap.size, 0, none⟩) 4 4)).alloc (.cells #[.int .i64 2,.int .i64 2,.int .i64 2,.int .i64 2] 3) = w5 at kres hO5 hC5 hF5 ⊢
      refine bodyPost_ret (v := .agg #[.slice (some ⟨w3.heap.size, 0, none⟩) 4 4]) (by simp [results, Tryz.results96, go_sem, kres]) rfl ⟨_, [2,2,2,2], _, rfl, hO5, hC5, hF5⟩
    · have h1 : (x == 1) = false := by rw [beq_eq_false_iff_ne]; exact e1
      by_cases e2 : x = 2
      · subst e2
        have hsw := hBr.lt
        have hBn := hBr.alloc (.cells #[.int .i64 5,.int .i64 5] 3)
        have kbn := hBn.cell (i := 0) (v := .slice none 0 0) rfl
        have fbn := hBn.free 0
        go_wp2_with fail
        clear kbn fbn hBn
        have hs5 : (w3.setCell ⟨w.heap.size, 0, none⟩ (.slice (some ⟨w3.heap.size, 0, none⟩) 2 2)).heap.size = w3.heap.size := by simp
        have hO5 := (own_made (TI := 3) (n := 2) (by omega) (Ext.refl (w3.setCell ⟨w.heap.size, 0, none⟩ (.slice (some ⟨w3.heap.size, 0, none⟩) 2 2))) [5,5] rfl).low (w0 := w) (by have := hBr.lt; omega)
        rw [hs5] at hO5
        have hC5 := (hCr.other (b := w.heap.size) (i := 0) (by omega) (by omega) (.slice (some ⟨w3.heap.size, 0, none⟩) 2 2)).alloc (.cells #[.int .i64 5,.int .i64 5] 3)
        have hF5 := (hFr.out.set (Nat.le_refl _) 0 (.slice (some ⟨w3.heap.size, 0, none⟩) 2 2)).alloc (.cells #[.int .i64 5,.int .i64 5] 3)
        have kres := ((hBr.set 0 (.slice (some ⟨w3.heap.size, 0, none⟩) 2 2)).alloc (.cells #[.int .i64 5,.int .i64 5] 3)).cell (i := 0) (v := .slice (some ⟨w3.heap.size, 0, none⟩) 2 2) rfl
        change Own _ _ (World.alloc _ (.cells #[.int .i64 5,.int .i64 5] _)) _ _ at hO5
        generalize (w3.setCell ⟨w.heap.size, 0, none⟩ (.slice (some ⟨w3.heap.size, 0, none⟩) 2 2)).alloc (.cells #[.int .i64 5,.int .i64 5] 3) = w5 at kres hO5 hC5 hF5 ⊢
        refine bodyPost_ret (v := .agg #[.slice (some ⟨w3.heap.size, 0, none⟩) 2 2]) (by simp [results, Tryz.results96, go_sem, kres]) rfl ⟨_, [5,5], _, rfl, hO5, hC5, hF5⟩
      · have h2 : (x == 2) = false := by rw [beq_eq_false_iff_ne]; exact e2
        have kr := hBr.cell (i := 0) (v := .slice none 0 0) rfl
        have fr := hBr.free 0
        have kg := hBg3.cell (i := 0) (v := .slice ao L.length c) rfl
        have kres := (hBr.set 0 (.slice ao L.length c)).cell (i := 0) (v := .slice ao L.length c) rfl
        have hO5 : Own 3 w (w3.setCell ⟨w.heap.size, 0, none⟩ (.slice ao L.length c)) (.slice ao L.length c) L := (hO3.setCell_below (p := ⟨w.heap.size, 0, none⟩) (by rw [hs0]; exact Nat.lt_succ_self _) _).low (by omega)
        have hC5 := hCr.other (b := w.heap.size) (i := 0) (by omega) (by omega) (.slice ao L.length c)
        have hF5 := hFr.out.set (Nat.le_refl _) 0 (.slice ao L.length c)
        go_wp2_with fail
        generalize w3.setCell ⟨w.heap.size, 0, none⟩ (.slice ao L.length c) = w5 at kres hO5 hC5 hF5 ⊢
        refine bodyPost_ret (v := .agg #[.slice ao L.length c]) (by simp [results, Tryz.results96, go_sem, kres]) rfl ⟨_, L, _, rfl, hO5, hC5, hF5⟩
/-- an element that is drawn -/
theorem l2Element_any (w0 w wA : World) (p : Nat) (v : Value) (L : List Int) (h : Cur w0 w p) (hO : Own 3 wA w v L) (hpA : p < wA.heap.size) :
    Calls Tryz.prog 97 #[.pointer (some ⟨p, 0, none⟩), .agg #[v]] w fun e w' => ∃ x, e = .returned (.int .i64 x) ∧ (-9223372036854775808 ≤ x ∧ x ≤ 9223372036854775807) ∧ Cur w0 w' p ∧ Drw p w w' := by
  have hp := h.lt
  have hB0 : Blk (w.alloc (.cells #[v] 26)) w.heap.size 26 #[v] := Blk.new _ _ _
  have hO0 := hO.alloc (.cells #[v] 26)
  go_enter Tryz.func97, Tryz.ntmps97
  go_wp2_with fail
  refine (l1Once_any w0 _ p 16 (by omega) (h.alloc _)).mono ?_
  rintro e w2 ⟨b, rfl, hC2, hF2⟩
  have hB2 := hF2.blk hB0 (by omega)
  have hO2 := hF2.own hO0 hpA
  have hF02 := Lib.hid ((((Ext.refl w).alloc (.cells #[v] 26)).drw p).trans hF2)
  have hsz2 := hF2.size
  have hsz1 : (w.alloc (.cells #[v] 26)).heap.size = w.heap.size + 1 := by simp
  clear hO hO0 hB0 hF2
  cases b
  · have kb := hB2.cell (i := 0) (v := v) rfl
    have hob := ordF_bd L
    go_wp2_with fail
    refine (sOrderOf_any _ L _ hO2.ints).mono ?_
    rintro e w3 ⟨rfl, hE3⟩
    obtain ⟨n, hn⟩ : ∃ n, n = ordF L := ⟨_, rfl⟩
    rw [← hn] at hob ⊢
    have hC3 := hC2.ext hE3
    have hF3 := Lib.hid (hF02.out.trans (hE3.drw p))
    clear hn
    by_cases h1n : 1 < n
    · go_wp2_with fail
      refine (l1Below_any w0 _ p n (by omega) hC3).mono ?_
      rintro e w4 ⟨x, rfl, hb, hC4, hF4⟩
      have hx := hb.2 (by omega)
      have hF4' := hF3.out.trans hF4
      go_wp2_with fail
      go_ret
      exact ⟨_, rfl, ⟨by omega, by omega⟩, hC4, hF4'⟩
    · go_wp2_with fail
      refine (l1Below_any w0 _ p 1 (by omega) hC3).mono ?_
      rintro e w4 ⟨x, rfl, hb, hC4, hF4⟩
      have hx := hb.2 (by omega)
      have hF4' := hF3.out.trans hF4
      go_wp2_with fail
      go_ret
      exact ⟨_, rfl, ⟨by omega, by omega⟩, hC4, hF4'⟩
  · have hOl := own_made (TI := 3) (n := 3) (by omega) (Ext.refl w2) [-1, 24, 9223372036854775807] rfl
    go_wp2_with fail
    refine (l1PickInt_any w0 _ w2 p _ _ (hC2.alloc _) hOl (by omega) (by decide) (by decide)).mono ?_
    rintro e w4 ⟨k, hk, rfl, hC4, hF4⟩
    have hF4' := (hF02.out.alloc _).trans hF4
    have hy : -9223372036854775808 ≤ nth [-1, 24, 9223372036854775807] k ∧ nth [-1, 24, 9223372036854775807] k ≤ 9223372036854775807 := by
      have : k = 0 ∨ k = 1 ∨ k = 2 := by simp at hk; omega
      rcases this with rfl | rfl | rfl <;> decide
    obtain ⟨y, hyd⟩ : ∃ y, y = nth [-1, 24, 9223372036854775807] k := ⟨_, rfl⟩
    rw [← hyd] at hy ⊢
    clear hyd hOl
    go_wp2_with fail
    go_ret
    exact ⟨_, rfl, hy, hC4, hF4'⟩
/-- a set that is drawn -/
theorem l3Set_any (w0 w wA : World) (p : Nat) (v : Value) (L : List Int) (h : Cur w0 w p) (hO : Own 3 wA w v L) (hpA : p < wA.heap.size) :
    Calls Tryz.prog 77 #[.pointer (some ⟨p, 0, none⟩), .agg #[v]] w fun e w' => ∃ x, e = .returned (.int .i64 x) ∧ (-9223372036854775808 ≤ x ∧ x ≤ 9223372036854775807) ∧ Cur w0 w' p ∧ Drw p w w' := by
  have hp := h.lt
  have hB0 : Blk (w.alloc (.cells #[v] 26)) w.heap.size 26 #[v] := Blk.new _ _ _
  have kb := hB0.cell (i := 0) (v := v) rfl
  have hO0 := hO.alloc (.cells #[v] 26)
  have hob := ordF_bd L
  go_enter Tryz.func77, Tryz.ntmps77
  go_wp2_with fail
  refine (sOrderOf_any _ L _ hO0.ints).mono ?_
  rintro e w1 ⟨rfl, hE1⟩
  obtain ⟨n, hn⟩ : ∃ n, n = ordF L := ⟨_, rfl⟩
  rw [← hn] at hob ⊢
  have hC1 := (h.alloc (.cells #[v] 26)).ext hE1
  have hF1 := Lib.hid (((((Ext.refl w).alloc (.cells #[v] 26))).trans hE1).drw p)
  have hsz2 := hE1.size
  have hsz1 : (w.alloc (.cells #[v] 26)).heap.size = w.heap.size + 1 := by simp
  clear hO hO0 hB0 kb hE1 hn
  obtain ⟨m, rfl⟩ := Int.eq_ofNat_of_zero_le hob.1
  have hm24 : m ≤ 24 := by omega
  have hP1 := pw_pos m
  have hP2 := pw_le hm24
  have hq := ishl_one (n := m) (by omega)
  by_cases h1n : 1 < (m : Int)
  · go_wp2_with fail
    refine (l1Below_any w0 _ p 6 (by omega) hC1).mono ?_
    rintro e w2 ⟨x, rfl, hb, hC2, hF2⟩
    obtain ⟨hx0, hx1⟩ := hb.2 (by omega)
    have hF2' := Lib.hid (hF1.out.trans hF2)
    have hsz3 := hF2.size
    clear hF1 hC1 hF2 hb
    go_wp2_with fail
    go_loopw [6, 7] (fun sa sk wr => ∃ (k : Int) (a : Nat), a < 2 ^ 24 ∧ 0 ≤ k ∧ k ≤ 6 ∧ sk = .int .i64 k ∧ sa = .int .i64 a ∧ Cur w0 wr p ∧ Hid (Drw p w wr) ∧ w2.heap.size ≤ wr.heap.size) (fun _ sk _ => (intOf sk).toNat)
    case atStart => exact ⟨x, 0, by decide, hx0, by omega, rfl, rfl, hC2, hF2', Nat.le_refl _⟩
    case round =>
      rename World => wr
      clear hC2 hF2' hx0 hx1
      obtain ⟨k, a, ha, hk0, hk6, rfl, rfl, hC, hF, hsz4⟩ := hrel
      by_cases hlt : 0 < k
      · go_wp2_with fail
        refine (l1Below_any w0 _ p (m:Int) (by omega) hC).mono ?_
        rintro e w3 ⟨y, rfl, hb, hC3, hF3⟩
        obtain ⟨hy0, hy1⟩ := hb.2 (by omega)
        obtain ⟨z, rfl⟩ := Int.eq_ofNat_of_zero_le hy0
        have hz : z < 24 := by omega
        have q1 := ishl_one (n := z) (by omega)
        have q2 := ior_pw ha hz
        have ha2 : a ||| 2 ^ z < 2 ^ 24 := Nat.or_lt_two_pow ha (Nat.pow_lt_pow_right (by omega) hz)
        have hF3' := Lib.hid (hF.out.trans hF3)
        have hsz5 := hF3.size
        clear hb hF3
        go_wp2_with fail
        go_roundw
        case rel => exact ⟨k - 1, a ||| 2 ^ z, ha2, by omega, by omega, by go_num, rfl, hC3, hF3', by omega⟩
        case measure => (simp [intOf]; omega)
      · go_wp2_with fail
        refine (l1Below_any w0 _ p 20 (by omega) hC).mono ?_
        rintro e w3 ⟨y, rfl, hb, hC3, hF3⟩
        obtain ⟨hy0, hy1⟩ := hb.2 (by omega)
        have hF3' := Lib.hid (hF.out.trans hF3)
        have hsz5 := hF3.size
        clear hb hF3
        by_cases e0 : y = 0
        · subst e0
          skip
          go_wp2_with fail
          go_ret
          exact ⟨_, rfl, ⟨by omega, by omega⟩, hC3, hF3'.out⟩
        · have h0 : (y == 0) = false := by rw [beq_eq_false_iff_ne]; exact e0
          by_cases e1 : y = 1
          · subst e1
            have hOl := own_made (TI := 3) (n := 3) (by omega) (Ext.refl w3) [-1, 16777216, 9223372036854775807] rfl
            go_wp2_with fail
            refine (l1PickInt_any w0 _ w3 p _ _ (hC3.alloc _) hOl (by omega) (by decide) (by decide)).mono ?_
            rintro e w4 ⟨j, hj, rfl, hC4, hF4⟩
            have hF4' := (hF3'.out.alloc _).trans hF4
            have hy : -9223372036854775808 ≤ nth [-1, 16777216, 9223372036854775807] j ∧ nth [-1, 16777216, 9223372036854775807] j ≤ 9223372036854775807 := by
              have : j = 0 ∨ j = 1 ∨ j = 2 := by simp at hj; omega
              rcases this with rfl | rfl | rfl <;> decide
            obtain ⟨y, hyd⟩ : ∃ y, y = nth [-1, 16777216, 9223372036854775807] j := ⟨_, rfl⟩
            rw [← hyd] at hy ⊢
            clear hyd hOl
            go_wp2_with fail
            go_ret
            exact ⟨_, rfl, hy, hC4, hF4'⟩
          · have h1 : (y == 1) = false := by rw [beq_eq_false_iff_ne]; exact e1
            go_wp2_with fail
            go_ret
            exact ⟨_, rfl, ⟨by omega, by omega⟩, hC3, hF3'.out⟩
  · go_wp2_with fail
    refine (l1Below_any w0 _ p 6 (by omega) hC1).mono ?_
    rintro e w2 ⟨x, rfl, hb, hC2, hF2⟩
    obtain ⟨hx0, hx1⟩ := hb.2 (by omega)
    have hF2' := Lib.hid (hF1.out.trans hF2)
    have hsz3 := hF2.size
    clear hF1 hC1 hF2 hb
    go_wp2_with fail
    go_loopw [6, 7] (fun sa sk wr => ∃ (k : Int) (a : Nat), a < 2 ^ 24 ∧ 0 ≤ k ∧ k ≤ 6 ∧ sk = .int .i64 k ∧ sa = .int .i64 a ∧ Cur w0 wr p ∧ Hid (Drw p w wr) ∧ w2.heap.size ≤ wr.heap.size) (fun _ sk _ => (intOf sk).toNat)
    case atStart => exact ⟨x, 0, by decide, hx0, by omega, rfl, rfl, hC2, hF2', Nat.le_refl _⟩
    case round =>
      rename World => wr
      clear hC2 hF2' hx0 hx1
      obtain ⟨k, a, ha, hk0, hk6, rfl, rfl, hC, hF, hsz4⟩ := hrel
      by_cases hlt : 0 < k
      · go_wp2_with fail
        refine (l1Below_any w0 _ p 1 (by omega) hC).mono ?_
        rintro e w3 ⟨y, rfl, hb, hC3, hF3⟩
        obtain ⟨hy0, hy1⟩ := hb.2 (by omega)
        obtain ⟨z, rfl⟩ := Int.eq_ofNat_of_zero_le hy0
        have hz : z < 24 := by omega
        have q1 := ishl_one (n := z) (by omega)
        have q2 := ior_pw ha hz
        have ha2 : a ||| 2 ^ z < 2 ^ 24 := Nat.or_lt_two_pow ha (Nat.pow_lt_pow_right (by omega) hz)
        have hF3' := Lib.hid (hF.out.trans hF3)
        have hsz5 := hF3.size
        clear hb hF3
        go_wp2_with fail
        go_roundw
        case rel => exact ⟨k - 1, a ||| 2 ^ z, ha2, by omega, by omega, by go_num, rfl, hC3, hF3', by omega⟩
        case measure => (simp [intOf]; omega)
      · go_wp2_with fail
        refine (l1Below_any w0 _ p 20 (by omega) hC).mono ?_
        rintro e w3 ⟨y, rfl, hb, hC3, hF3⟩
        obtain ⟨hy0, hy1⟩ := hb.2 (by omega)
        have hF3' := Lib.hid (hF.out.trans hF3)
        have hsz5 := hF3.size
        clear hb hF3
        by_cases e0 : y = 0
        · subst e0
          have hq1 : ishl 1 1 = 2 := by decide
          go_wp2_with fail
          go_ret
          exact ⟨_, rfl, ⟨by omega, by omega⟩, hC3, hF3'.out⟩
        · have h0 : (y == 0) = false := by rw [beq_eq_false_iff_ne]; exact e0
          by_cases e1 : y = 1
          · subst e1
            have hOl := own_made (TI := 3) (n := 3) (by omega) (Ext.refl w3) [-1, 16777216, 9223372036854775807] rfl
            go_wp2_with fail
            refine (l1PickInt_any w0 _ w3 p _ _ (hC3.alloc _) hOl (by omega) (by decide) (by decide)).mono ?_
            rintro e w4 ⟨j, hj, rfl, hC4, hF4⟩
            have hF4' := (hF3'.out.alloc _).trans hF4
            have hy : -9223372036854775808 ≤ nth [-1, 16777216, 9223372036854775807] j ∧ nth [-1, 16777216, 9223372036854775807] j ≤ 9223372036854775807 := by
              have : j = 0 ∨ j = 1 ∨ j = 2 := by simp at hj; omega
              rcases this with rfl | rfl | rfl <;> decide
            obtain ⟨y, hyd⟩ : ∃ y, y = nth [-1, 16777216, 9223372036854775807] j := ⟨_, rfl⟩
            rw [← hyd] at hy ⊢
            clear hyd hOl
            go_wp2_with fail
            go_ret
            exact ⟨_, rfl, hy, hC4, hF4'⟩
          · have h1 : (y == 1) = false := by rw [beq_eq_false_iff_ne]; exact e1
            go_wp2_with fail
            go_ret
            exact ⟨_, rfl, ⟨by omega, by omega⟩, hC3, hF3'.out⟩
end Go.Zz

/- Plain facts: a number put into a list, the tiles of a search are distinct. No program is named here. -/
namespace Go.Zz

/-- where n is put: behind the last number that is not greater -/
def pkN (L : List Nat) (n : Nat) : Nat → Nat
  | 0 => 0
  | k + 1 => if n < nthN L k then pkN L n k else k + 1
theorem pkN_down {L : List Nat} {n k : Nat} (h : n < nthN L k) : pkN L n (k + 1) = pkN L n k := by rw [pkN, if_pos h]
theorem pkN_stop {L : List Nat} {n k : Nat} (h : ¬ n < nthN L k) : pkN L n (k + 1) = k + 1 := by rw [pkN, if_neg h]
def putAt (L : List Nat) (n k : Nat) : List Nat := L.take k ++ n :: L.drop k
def putN (L : List Nat) (n : Nat) : List Nat := if 0 < pkN L n L.length ∧ nthN L (pkN L n L.length - 1) = n then L else putAt L n (pkN L n L.length)
theorem pkN_le (L : List Nat) (n : Nat) : ∀ k, pkN L n k ≤ k
  | 0 => Nat.le_refl _
  | k + 1 => by
    unfold pkN; split
    · exact Nat.le_succ_of_le (pkN_le L n k)
    · exact Nat.le_refl _
theorem putN_old {L : List Nat} {n k : Nat} (hk : pkN L n L.length = k + 1) (h : nthN L k = n) : putN L n = L := by
  unfold putN; rw [hk, if_pos ⟨by omega, h⟩]
theorem putN_zero {L : List Nat} {n : Nat} (hk : pkN L n L.length = 0) : putN L n = putAt L n 0 := by
  unfold putN; rw [hk, if_neg (by omega)]
theorem putN_new {L : List Nat} {n k : Nat} (hk : pkN L n L.length = k + 1) (h : ¬ nthN L k = n) : putN L n = putAt L n (k + 1) := by
  unfold putN; rw [hk, if_neg (fun e => h e.2)]
theorem putAt_len {L : List Nat} {n k : Nat} (hk : k ≤ L.length) : (putAt L n k).length = L.length + 1 := by
  unfold putAt; rw [List.length_append, List.length_cons, List.length_take, List.length_drop]; omega
theorem mem_putAt {L : List Nat} {n k x : Nat} : x ∈ putAt L n k ↔ x = n ∨ x ∈ L := by
  unfold putAt
  rw [List.mem_append, List.mem_cons]
  have h : x ∈ L ↔ x ∈ L.take k ∨ x ∈ L.drop k := by rw [← List.mem_append, List.take_append_drop]
  rw [h]
  constructor
  · rintro (a | a | a)
    · exact Or.inr (Or.inl a)
    · exact Or.inl a
    · exact Or.inr (Or.inr a)
  · rintro (a | a | a)
    · exact Or.inr (Or.inl a)
    · exact Or.inl a
    · exact Or.inr (Or.inr a)
theorem putN_cases (L : List Nat) (n : Nat) : (putN L n = L ∧ n ∈ L) ∨ putN L n = putAt L n (pkN L n L.length) := by
  unfold putN
  split
  · next h =>
    refine Or.inl ⟨rfl, ?_⟩
    have hle := pkN_le L n L.length
    have := nthN_mem (L := L) (k := pkN L n L.length - 1) (by omega)
    rwa [h.2] at this
  · exact Or.inr rfl
theorem mem_putN {L : List Nat} {n x : Nat} : x ∈ putN L n ↔ x = n ∨ x ∈ L := by
  rcases putN_cases L n with ⟨e, h⟩ | e
  · rw [e]
    constructor
    · exact Or.inr
    · rintro (rfl | a)
      · exact h
      · exact a
  · rw [e]; exact mem_putAt
theorem putN_len_new {L : List Nat} {n : Nat} (h : n ∉ L) : (putN L n).length = L.length + 1 := by
  rcases putN_cases L n with ⟨-, h2⟩ | e
  · exact absurd h2 h
  · rw [e]; exact putAt_len (pkN_le _ _ _)
theorem putN_len (L : List Nat) (n : Nat) : (putN L n).length ≤ L.length + 1 := by
  rcases putN_cases L n with ⟨e, -⟩ | e
  · rw [e]; omega
  · rw [e, putAt_len (pkN_le _ _ _)]; exact Nat.le_refl _
/-- the first k numbers of a list, put one by one -/
def putTo (T : List Nat) : Nat → List Nat
  | 0 => []
  | k + 1 => putN (putTo T k) (nthN T k)
theorem putTo_len (T : List Nat) : ∀ k, (putTo T k).length ≤ k
  | 0 => Nat.le_refl _
  | k + 1 => by have := putTo_len T k; have := putN_len (putTo T k) (nthN T k); unfold putTo; omega
theorem putTo_nodup {T : List Nat} (h : T.Nodup) : ∀ k, k ≤ T.length → (putTo T k).length = k ∧ ∀ x ∈ putTo T k, x ∈ T.take k
  | 0, _ => ⟨rfl, by simp [putTo]⟩
  | k + 1, hk => by
    obtain ⟨h1, h2⟩ := putTo_nodup h k (by omega)
    have hn : nthN T k ∉ putTo T k := fun e => by
      have := h2 _ e
      rw [← List.take_append_drop k T, List.nodup_append] at h
      have h4 : nthN T k ∈ T.drop k := by
        have e2 : nthN T k = T[k]'(by omega) := by simp [nthN, List.getD, show k < T.length by omega]
        rw [List.drop_eq_getElem_cons (by omega), e2]; exact List.mem_cons_self
      exact h.2.2 _ this _ h4 rfl
    refine ⟨by unfold putTo; rw [putN_len_new hn, h1], fun x hx => ?_⟩
    unfold putTo at hx
    rw [take_nthN T k (by omega), List.mem_append, List.mem_singleton]
    rcases mem_putN.1 hx with rfl | hx
    · exact Or.inr rfl
    · exact Or.inl (h2 x hx)

/-! ### the tiles of a search are distinct -/
/-- what a search from (u, b) leads to -/
def Lead (l : List Int) (a u b y : Nat) : Prop := ∀ d, (b.testBit d = true → y.testBit d = true) ∧ (y.testBit d = true → b.testBit d = true ∨ shiftF l a d &&& u = 0)
theorem and_zero_bit {a b i : Nat} (h : a &&& b = 0) (ha : a.testBit i = true) : b.testBit i = false := by
  cases hb : b.testBit i
  · rfl
  · have : (a &&& b).testBit i = true := by rw [Nat.testBit_and, ha, hb]; rfl
    rw [h, Nat.zero_testBit] at this; cases this
theorem and_zero_sub {a b c : Nat} (h : a &&& (b ||| c) = 0) : a &&& b = 0 := by
  apply Nat.eq_of_testBit_eq
  intro i
  rw [Nat.zero_testBit, Nat.testBit_and]
  cases ha : a.testBit i
  · rfl
  · have := and_zero_bit h ha
    rw [Nat.testBit_or, Bool.or_eq_false_iff] at this
    rw [this.1]; rfl
theorem Lead.back {l : List Int} {a u b D y : Nat} (hz : shiftF l a D &&& u = 0) (h : Lead l a (u ||| shiftF l a D) (b ||| 2 ^ D) y) : Lead l a u b y := fun d => by
  obtain ⟨h1, h2⟩ := h d
  refine ⟨fun hb => h1 (by rw [Nat.testBit_or, hb]; rfl), fun hy => ?_⟩
  rcases h2 hy with h3 | h3
  · rw [Nat.testBit_or, Bool.or_eq_true, Nat.testBit_two_pow] at h3
    rcases h3 with h3 | h3
    · exact Or.inl h3
    · have : D = d := by simpa using h3
      subst this; exact Or.inr hz
  · exact Or.inr (and_zero_sub h3)
theorem tlS_fold {c : Nat → Prop} [DecidablePred c] {G : Nat → Nat → List Nat} {Q : Nat → Nat → Prop} {E : List Nat} {m : Nat} (hG : ∀ x k, x ∈ E → c x → (G x k).Nodup ∧ ∀ y ∈ G x k, Q x y)
    (hQ : ∀ x ∈ E, ∀ x' ∈ E, ∀ y, c x → c x' → Q x y → Q x' y → x = x') :
    ∀ (L pre out : List Nat), (pre ++ L).Nodup → (∀ x ∈ pre ++ L, x ∈ E) → out.Nodup → (∀ y ∈ out, ∃ x ∈ pre, c x ∧ Q x y) →
      (L.foldl (fun (out : List Nat) (x : Nat) => if out.length < m ∧ c x then out ++ G x (m - out.length) else out) out).Nodup ∧ ∀ y ∈ L.foldl (fun (out : List Nat) (x : Nat) => if out.length < m ∧ c x then out ++ G x (m - out.length) else out) out, ∃ x ∈ pre ++ L, c x ∧ Q x y := by
  intro L
  induction L with
  | nil => intro pre out _ _ h3 h4; exact ⟨h3, by simpa using h4⟩
  | cons x L ih =>
    intro pre out h1 h2 h3 h4
    have e : pre ++ x :: L = (pre ++ [x]) ++ L := by simp
    rw [List.foldl_cons, e]
    rw [e] at h1 h2
    refine ih (pre ++ [x]) _ h1 h2 ?_ ?_
    · split
      · next hc =>
        have hx : x ∈ E := h2 x (by simp)
        obtain ⟨g1, g2⟩ := hG x (m - out.length) hx hc.2
        rw [List.nodup_append]
        refine ⟨h3, g1, fun y hy z hz e => ?_⟩
        subst e
        obtain ⟨x', hx', hc', hq⟩ := h4 y hy
        have := hQ x' (h2 x' (by simp [hx'])) x hx y hc' hc.2 hq (g2 y hz)
        subst this
        rw [List.nodup_append] at h1
        have h5 := h1.1
        rw [List.nodup_append] at h5
        exact h5.2.2 _ hx' _ (by simp) rfl
      · exact h3
    · intro y hy
      split at hy
      · next hc =>
        rw [List.mem_append] at hy
        rcases hy with hy | hy
        · obtain ⟨x', hx', hq⟩ := h4 y hy; exact ⟨x', by simp [hx'], hq⟩
        · exact ⟨x, by simp, hc.2, (hG x _ (h2 x (by simp)) hc.2).2 y hy⟩
      · obtain ⟨x', hx', hq⟩ := h4 y hy; exact ⟨x', by simp [hx'], hq⟩
theorem dF_add {l : List Int} (hg : isGrp l = true) {u x : Nat} (hu : lowZ u < ord l) : addF l (dF l u x) x = lowZ u := by
  unfold dF
  rw [addF_assoc l (isGrp_ords hg), addF_comm l (negF l x) x, addF_neg l (isGrp_ords hg), addF_comm l, addF_zero l (isGrp_ords hg) _ hu]
theorem low_free {l : List Int} {u : Nat} (hu : u < 2 ^ ord l) (ho : ord l ≤ 24) (h : u ≠ fullN l) : lowZ u < ord l ∧ u.testBit (lowZ u) = false := by
  have hex : ∃ e, u.testBit e = false ∧ e < ord l := Classical.byContradiction fun hn => h (not_full hu (e := ord l) (fun j hj => Classical.byContradiction fun hb => hn ⟨j, by simpa using hb, hj⟩) (Nat.le_refl _))
  have key : ∀ n, (∃ e, e < n ∧ u.testBit e = false) → ∃ e, e < n ∧ u.testBit e = false ∧ ∀ j, j < e → u.testBit j = true := by
    intro n
    induction n with
    | zero => rintro ⟨e, he, _⟩; omega
    | succ n ih =>
      rintro ⟨e, he, hb⟩
      by_cases hc : ∃ e, e < n ∧ u.testBit e = false
      · obtain ⟨e', h1, h2⟩ := ih hc; exact ⟨e', by omega, h2⟩
      · have e0 : e = n := Classical.byContradiction fun hn => hc ⟨e, by omega, hb⟩
        subst e0
        exact ⟨e, by omega, hb, fun j hj => Classical.byContradiction fun hb => hc ⟨j, hj, by simpa using hb⟩⟩
  obtain ⟨e, he, hb⟩ := hex
  obtain ⟨e', h1, h2, h3⟩ := key (ord l) ⟨e, hb, he⟩
  rw [lowZ_is h3 h2 (by omega)]; exact ⟨h1, h2⟩
theorem in_shift {l : List Int} (hg : isGrp l = true) {a u x : Nat} (hu : lowZ u < ord l) (hx : x ∈ elems a) : (shiftF l a (dF l u x)).testBit (lowZ u) = true := by
  rw [testBit_shiftF]
  exact ⟨x, (mem_elems.1 hx).1, (mem_elems.1 hx).2, dF_add hg hu⟩
theorem tlS_nodup {l : List Int} (hg : isGrp l = true) {a : Nat} (ha : a < 2 ^ ord l) : ∀ f u b m, u < 2 ^ ord l → (∀ d, b.testBit d = true → Sub (shiftF l a d) u) →
    (tlS l a f u b m).Nodup ∧ ∀ y ∈ tlS l a f u b m, Lead l a u b y := by
  intro f
  induction f with
  | zero => intro u b m _ _; simp [tlS]
  | succ f ih =>
    intro u b m hu hI
    have hob := ord_bd hg
    by_cases hfull : u = fullN l
    · rw [tlS_full hfull]
      refine ⟨by simp, fun y hy => ?_⟩
      rw [List.mem_singleton] at hy
      subst hy
      exact fun d => ⟨id, Or.inl⟩
    · obtain ⟨hl1, hl2⟩ := low_free hu hob.2 hfull
      have hbit : ∀ x ∈ elems a, x < ord l := fun x hx => Classical.byContradiction fun hn => by
        have := testBit_ge ha (Nat.le_of_not_lt hn); rw [(mem_elems.1 hx).2] at this; cases this
      unfold tlS
      rw [if_neg hfull]
      have key := tlS_fold (c := fun x => shiftF l a (dF l u x) &&& u = 0) (G := fun x k => tlS l a f (u ||| shiftF l a (dF l u x)) (b ||| 2 ^ dF l u x) k) (Q := fun x y => Lead l a (u ||| shiftF l a (dF l u x)) (b ||| 2 ^ dF l u x) y) (E := elems a) (m := m)
        (fun x k hx hc => ih _ _ k (Nat.or_lt_two_pow hu (shiftF_lt (isGrp_ords hg) a _)) fun d hd => by
          rw [Nat.testBit_or, Bool.or_eq_true, Nat.testBit_two_pow] at hd
          rcases hd with hd | hd
          · exact (hI d hd).trans (Sub.or_left _ _)
          · have : dF l u x = d := by simpa using hd
            subst this; exact Sub.or_right _ _)
        (fun x hx x' hx' y hc hc' hq hq' => by
          have hD : y.testBit (dF l u x') = true := (hq' _).1 (by rw [Nat.testBit_or, Nat.testBit_two_pow]; simp)
          have hs' := in_shift hg hl1 hx'
          have hs := in_shift hg hl1 hx
          rcases (hq _).2 hD with h1 | h1
          · rw [Nat.testBit_or, Bool.or_eq_true, Nat.testBit_two_pow] at h1
            rcases h1 with h1 | h1
            · have := hI _ h1 _ hs'
              rw [hl2] at this; cases this
            · have e : dF l u x = dF l u x' := by simpa using h1
              have e1 := dF_add hg (x := x) hl1
              have e2 := dF_add hg (x := x') hl1
              rw [e] at e1
              exact addF_cancel (isGrp_ords hg) (hbit x hx) (hbit x' hx') (e1.trans e2.symm)
          · have := and_zero_bit h1 hs'
            rw [Nat.testBit_or, hs] at this; simp at this)
        (elems a) [] [] (by simpa using elems_nodup a) (by simp) (by simp) (by simp)
      refine ⟨key.1, fun y hy => ?_⟩
      obtain ⟨x, -, hc, hq⟩ := key.2 y hy
      exact hq.back hc
theorem tileL_nodup {l : List Int} (hg : isGrp l = true) {a : Nat} (ha : a < 2 ^ ord l) (m : Nat) : (tileL l a m).Nodup :=
  (tlS_nodup hg ha _ _ _ _ ha fun d hd => by
    have : d = 0 := by
      rw [show (1 : Nat) = 2 ^ 0 from rfl, Nat.testBit_two_pow] at hd
      have : 0 = d := by simpa using hd
      omega
    subst this
    rw [shiftF_none hg ha]; exact Sub.refl _).1
end Go.Zz

/- Lists of numbers put together: subgroups. No program is named here. -/
namespace Go.Zz

def foldP (f : Nat → Nat) (P : List Nat) (k : Nat) : List Nat := (List.range k).foldl (fun L j => putN L (f j)) P
theorem foldP_zero (f : Nat → Nat) (P : List Nat) : foldP f P 0 = P := rfl
theorem foldP_succ (f : Nat → Nat) (P : List Nat) (k : Nat) : foldP f P (k + 1) = putN (foldP f P k) (f k) := by unfold foldP; rw [List.range_succ, List.foldl_append]; rfl
theorem foldP_len (f : Nat → Nat) (P : List Nat) : ∀ k, (foldP f P k).length ≤ P.length + k
  | 0 => Nat.le_refl _
  | k + 1 => by rw [foldP_succ]; have := foldP_len f P k; have := putN_len (foldP f P k) (f k); omega
theorem mem_foldP {f : Nat → Nat} {P : List Nat} {x : Nat} : ∀ {k}, x ∈ foldP f P k ↔ x ∈ P ∨ ∃ j, j < k ∧ x = f j
  | 0 => by simp [foldP_zero]
  | k + 1 => by
    rw [foldP_succ, mem_putN, mem_foldP]
    constructor
    · rintro (h | h | ⟨j, hj, e⟩)
      · exact Or.inr ⟨k, by omega, h⟩
      · exact Or.inl h
      · exact Or.inr ⟨j, by omega, e⟩
    · rintro (h | ⟨j, hj, e⟩)
      · exact Or.inr (Or.inl h)
      · by_cases hjk : j = k
        · subst hjk; exact Or.inl e
        · exact Or.inr (Or.inr ⟨j, by omega, e⟩)
/-- the cyclic subgroups -/
def cycT (l : List Int) (k : Nat) : List Nat := foldP (fun x => genF l (2 ^ x)) [] k
/-- sums of two of a list, the rows up to k -/
def pairT (l : List Int) (C : List Nat) : Nat → List Nat
  | 0 => []
  | k + 1 => foldP (fun j => sumF l (nthN C k) (nthN C j)) (pairT l C k) (k + 1)
theorem pairT_len (l : List Int) (C : List Nat) : ∀ k, (pairT l C k).length ≤ k * k
  | 0 => Nat.le_refl _
  | k + 1 => by
    have h1 := pairT_len l C k
    have h2 := foldP_len (fun j => sumF l (nthN C k) (nthN C j)) (pairT l C k) (k + 1)
    show (foldP _ _ _).length ≤ _
    have e : (k + 1) * (k + 1) = k * k + k + k + 1 := by rw [Nat.add_mul, Nat.mul_add]; omega
    omega
/-- sums of one of a list and one of another -/
def tripT (l : List Int) (T C : List Nat) : Nat → List Nat
  | 0 => T
  | k + 1 => foldP (fun j => sumF l (nthN T k) (nthN C j)) (tripT l T C k) C.length
theorem tripT_len (l : List Int) (T C : List Nat) : ∀ k, (tripT l T C k).length ≤ T.length + k * C.length
  | 0 => by simp [tripT]
  | k + 1 => by
    have h1 := tripT_len l T C k
    have h2 := foldP_len (fun j => sumF l (nthN T k) (nthN C j)) (tripT l T C k) C.length
    show (foldP _ _ _).length ≤ _
    rw [Nat.add_mul]
    omega
def cycL (l : List Int) : List Nat := cycT l (ord l)
def twoL (l : List Int) : List Nat := pairT l (cycL l) (cycL l).length
/-- the subgroups as the reference lists them -/
def sgL (l : List Int) : List Nat := tripT l (twoL l) (cycL l) (twoL l).length
theorem cycL_len {l : List Int} (hg : isGrp l = true) : (cycL l).length ≤ 24 := by
  have := foldP_len (fun x => genF l (2 ^ x)) [] (ord l)
  have := ord_bd hg
  simp only [List.length_nil] at *
  show (foldP _ _ _).length ≤ _
  omega
theorem twoL_len {l : List Int} (hg : isGrp l = true) : (twoL l).length ≤ 576 := by
  have h1 := pairT_len l (cycL l) (cycL l).length
  have h2 := cycL_len hg
  exact Nat.le_trans h1 (Nat.mul_le_mul h2 h2)
theorem sgL_len {l : List Int} (hg : isGrp l = true) : (sgL l).length ≤ 14400 := by
  have h1 := tripT_len l (twoL l) (cycL l) (twoL l).length
  have h2 := cycL_len hg
  have h3 := twoL_len hg
  have h4 : (twoL l).length * (cycL l).length ≤ 576 * 24 := Nat.mul_le_mul h3 h2
  show (tripT _ _ _ _).length ≤ _
  omega
theorem cyc_lt {l : List Int} (hg : isGrp l = true) {k x : Nat} (h : x ∈ cycT l k) : x < 2 ^ ord l := by
  rcases mem_foldP.1 h with h | ⟨j, _, rfl⟩
  · cases h
  · exact genF_lt hg _
theorem pairT_lt {l : List Int} (hg : isGrp l = true) {C : List Nat} : ∀ {k x}, x ∈ pairT l C k → x < 2 ^ ord l
  | 0, x, h => by cases h
  | k + 1, x, h => by
    rcases mem_foldP.1 h with h | ⟨j, _, rfl⟩
    · exact pairT_lt hg h
    · exact sumF_lt (isGrp_ords hg) _ _
theorem tripT_lt {l : List Int} (hg : isGrp l = true) {T C : List Nat} (hT : ∀ x ∈ T, x < 2 ^ ord l) : ∀ {k x}, x ∈ tripT l T C k → x < 2 ^ ord l
  | 0, x, h => hT x h
  | k + 1, x, h => by
    rcases mem_foldP.1 h with h | ⟨j, _, rfl⟩
    · exact tripT_lt hg hT h
    · exact sumF_lt (isGrp_ords hg) _ _
theorem twoL_lt {l : List Int} (hg : isGrp l = true) : ∀ x ∈ twoL l, x < 2 ^ ord l := fun _ h => pairT_lt hg h
theorem sgL_lt {l : List Int} (hg : isGrp l = true) : ∀ x ∈ sgL l, x < 2 ^ ord l := fun _ h => tripT_lt hg (twoL_lt hg) h
theorem nthN_lt {l : List Int} (hg : isGrp l = true) {L : List Nat} (h : ∀ x ∈ L, x < 2 ^ ord l) (k : Nat) : nthN L k < 2 ^ ord l := by
  by_cases hk : k < L.length
  · exact h _ (nthN_mem hk)
  · have : nthN L k = 0 := by simp [nthN, List.getD, hk]
    rw [this]; exact Nat.two_pow_pos _
theorem cycL_ne {l : List Int} (hg : isGrp l = true) : 0 < (cycL l).length := by
  have hob := ord_bd hg
  have : genF l (2 ^ 0) ∈ cycL l := mem_foldP.2 (Or.inr ⟨0, by omega, rfl⟩)
  exact List.length_pos_of_mem this
theorem sgL_ne {l : List Int} (hg : isGrp l = true) : 0 < (sgL l).length := by
  have h1 := cycL_ne hg
  have h2 : sumF l (nthN (cycL l) 0) (nthN (cycL l) 0) ∈ pairT l (cycL l) 1 := mem_foldP.2 (Or.inr ⟨0, by omega, rfl⟩)
  have key : ∀ k, 1 ≤ k → sumF l (nthN (cycL l) 0) (nthN (cycL l) 0) ∈ pairT l (cycL l) k := by
    intro k hk
    induction k with
    | zero => omega
    | succ k ih =>
      by_cases e : k = 0
      · subst e; exact h2
      · exact mem_foldP.2 (Or.inl (ih (by omega)))
  have h3 := key _ h1
  have key2 : ∀ k, sumF l (nthN (cycL l) 0) (nthN (cycL l) 0) ∈ tripT l (twoL l) (cycL l) k := by
    intro k
    induction k with
    | zero => exact h3
    | succ k ih => exact mem_foldP.2 (Or.inl ih)
  exact List.length_pos_of_mem (key2 _)
end Go.Zz

/- Plain facts on maps that keep sums. No program is named here. -/
namespace Go.Zz
set_option linter.unusedVariables false

def kEq (g h : List Int) (L M : List Nat) (i j p q : Nat) : Bool := !(((addF g (nthN L i) (nthN L j) : Nat) : Int) == ((addF g (nthN L p) (nthN L q) : Nat) : Int)) || !(((addF h (nthN M i) (nthN M j) : Nat) : Int) != ((addF h (nthN M p) (nthN M q) : Nat) : Int))
theorem kEq_symm (g h : List Int) (L M : List Nat) (i j p q : Nat) : kEq g h L M i j p q = kEq g h L M p q i j := by
  unfold kEq
  rw [show (((addF g (nthN L i) (nthN L j) : Nat) : Int) == ((addF g (nthN L p) (nthN L q) : Nat) : Int)) = (((addF g (nthN L p) (nthN L q) : Nat) : Int) == ((addF g (nthN L i) (nthN L j) : Nat) : Int)) by rw [Bool.eq_iff_iff, beq_iff_eq, beq_iff_eq]; exact eq_comm,
    show (((addF h (nthN M i) (nthN M j) : Nat) : Int) != ((addF h (nthN M p) (nthN M q) : Nat) : Int)) = (((addF h (nthN M p) (nthN M q) : Nat) : Int) != ((addF h (nthN M i) (nthN M j) : Nat) : Int)) by rw [Bool.eq_iff_iff, bne_iff_ne, bne_iff_ne]; exact ne_comm]
/-- equal sums go to equal sums -/
def kpB (g h : List Int) (L M : List Nat) : Bool := (List.range L.length).all fun i => (List.range L.length).all fun j => (List.range L.length).all fun p => (List.range L.length).all fun q => decide (j < i) || decide (q < p) || kEq g h L M i j p q
theorem kpB_iff {g h : List Int} {L M : List Nat} : kpB g h L M = true ↔ ∀ i j p q, i ≤ j → j < L.length → p ≤ q → q < L.length → kEq g h L M i j p q = true := by
  unfold kpB
  simp only [List.all_eq_true, List.mem_range]
  constructor
  · intro H i j p q h1 h2 h3 h4
    have := H i (by omega) j h2 p (by omega) q h4
    simpa [show ¬ j < i by omega, show ¬ q < p by omega] using this
  · intro H i h1 j h2 p h3 q h4
    by_cases hij : j < i
    · simp [hij]
    · by_cases hpq : q < p
      · simp [hpq]
      · rw [H i j p q (by omega) h2 (by omega) h4]; simp
theorem kpB_no {g h : List Int} {L M : List Nat} {i j p q : Nat} (h1 : i ≤ j) (h2 : j < L.length) (h3 : p ≤ q) (h4 : q < L.length) (e : kEq g h L M i j p q = false) : kpB g h L M = false := by
  rw [← Bool.not_eq_true, kpB_iff]; intro H; rw [H i j p q h1 h2 h3 h4] at e; cases e
/-- all pairs p, q -/
theorem kpB_all {g h : List Int} {L M : List Nat} (H : ∀ i, i < L.length → ∀ j p q, i ≤ j → j < L.length → p < L.length → p ≤ q → q < L.length → kEq g h L M i j p q = true) : kpB g h L M = true := by
  rw [kpB_iff]; intro i j p q h1 h2 h3 h4; exact H i (by omega) j p q h1 h2 (by omega) h3 h4
/-- the pairs with p not above i -/
theorem kpB_half {g h : List Int} {L M : List Nat} (H : ∀ i, i < L.length → ∀ j p q, i ≤ j → j < L.length → p < i + 1 → p ≤ q → q < L.length → kEq g h L M i j p q = true) : kpB g h L M = true := by
  rw [kpB_iff]; intro i j p q h1 h2 h3 h4
  by_cases hp : p < i + 1
  · exact H i (by omega) j p q h1 h2 hp h3 h4
  · rw [kEq_symm]; exact H p (by omega) q i j h3 h4 (by omega) h1 h2
/-- a part is kept where all is kept -/
theorem kpB_take {g h : List Int} {L M : List Nat} {n : Nat} (hn : n ≤ L.length) (H : kpB g h L M = true) : kpB g h (L.take n) (M.take n) = true := by
  rw [kpB_iff] at H ⊢
  intro i j p q h1 h2 h3 h4
  rw [List.length_take] at h2 h4
  have := H i j p q h1 (by omega) h3 (by omega)
  have e : ∀ (N : List Nat) k, k < n → nthN (N.take n) k = nthN N k := fun N k hk => by simp [nthN, List.getD, hk]
  unfold kEq at this ⊢
  rw [e L i (by omega), e L j (by omega), e L p (by omega), e L q (by omega), e M i (by omega), e M j (by omega), e M p (by omega), e M q (by omega)]
  exact this

/-! ### sets out of lists -/
theorem add_bit {a x : Nat} (h : a.testBit x = false) : a + 2 ^ x = a ||| 2 ^ x := by
  have h1 : a &&& 2 ^ x = 0 := Nat.eq_of_testBit_eq fun i => by
    rw [Nat.testBit_and, Nat.testBit_two_pow, Nat.zero_testBit]
    by_cases e : x = i
    · subst e; rw [h]; rfl
    · simp [e]
  have e1 : a < 2 ^ (max a (2 ^ x) + 1) := Nat.lt_of_lt_of_le (Nat.lt_two_pow_self) (Nat.pow_le_pow_right (by omega) (by omega))
  have e2 : 2 ^ x < 2 ^ (max a (2 ^ x) + 1) := Nat.lt_of_lt_of_le (Nat.lt_two_pow_self) (Nat.pow_le_pow_right (by omega) (by omega))
  have h2 := andN_sub (max a (2 ^ x) + 1) (a ||| 2 ^ x) (2 ^ x) (Nat.or_lt_two_pow e1 e2)
  have h3 : andN (a ||| 2 ^ x) (2 ^ x) = a := Nat.eq_of_testBit_eq fun i => by
    rw [andN_bit, Nat.testBit_or, Nat.testBit_two_pow]
    by_cases e : x = i
    · subst e; simp [h]
    · simp [e]
  have h4 : (a ||| 2 ^ x) &&& 2 ^ x = 2 ^ x := Nat.eq_of_testBit_eq fun i => by
    rw [Nat.testBit_and, Nat.testBit_or, Nat.testBit_two_pow]
    by_cases e : x = i <;> simp [e]
  rw [h3, h4] at h2; exact h2
def soG (l : List Int) : List Int → Nat → Option Nat
  | [], a => some a
  | x :: r, a => if hasB l x && !a.testBit x.toNat then soG l r (a ||| 2 ^ x.toNat) else none
def soB (l X : List Int) : Bool := (soG l X 0).isSome && isGrp l
def soV (l X : List Int) : Int := match soG l X 0 with | some a => (a : Int) | none => 0
theorem soG_no {l X : List Int} (h : soG l X 0 = none) : soB l X = false ∧ soV l X = 0 := by unfold soB soV; rw [h]; exact ⟨rfl, rfl⟩
theorem soG_yes {l X : List Int} {a : Nat} (h : soG l X 0 = some a) : soB l X = isGrp l ∧ soV l X = (a : Int) := by unfold soB soV; rw [h]; exact ⟨by simp, rfl⟩
theorem soG_hno {l r : List Int} {x : Int} {a : Nat} (h : hasB l x = false) : soG l (x :: r) a = none := by unfold soG; rw [h]; rfl
theorem soG_bno {l r : List Int} {n a : Nat} (h : a.testBit n = true) : soG l ((n : Int) :: r) a = none := by unfold soG; simp [h]
theorem soG_go {l r : List Int} {n a : Nat} (h1 : hasB l n = true) (h : a.testBit n = false) : soG l ((n : Int) :: r) a = soG l r (a ||| 2 ^ n) := by
  conv => lhs; unfold soG
  simp [h, h1]
theorem soG_append (l : List Int) : ∀ (X Y : List Int) (a : Nat), soG l (X ++ Y) a = (soG l X a).bind (soG l Y)
  | [], _, _ => rfl
  | x :: X, Y, a => by
    rw [List.cons_append]; unfold soG
    split
    · exact soG_append l X Y _
    · rfl
theorem bset_app (M : List Nat) (y : Nat) : bset (M ++ [y]) = bset M ||| 2 ^ y := bset_snoc M y
theorem bset_mem {M : List Nat} {y : Nat} : (bset M).testBit y = decide (y ∈ M) := testBit_bset M y
theorem soG_take {l : List Int} (hg : isGrp l = true) {M : List Nat} (hn : M.Nodup) (hM : ∀ y ∈ M, y < ord l) : ∀ k, k ≤ M.length → soG l (castL (M.take k)) 0 = some (bset (M.take k))
  | 0, _ => rfl
  | k + 1, hk => by
    have hk' : k < M.length := by omega
    have ih := soG_take hg hn hM k (by omega)
    have hn2 : (M.take (k + 1)).Nodup := hn.sublist (List.take_sublist _ _)
    have hy : nthN M k < ord l := hM _ (nthN_mem hk')
    rw [take_nthN M k hk'] at hn2 ⊢
    have hn3 := List.nodup_append.1 hn2
    have hyn : nthN M k ∉ M.take k := fun e => hn3.2.2 _ e _ (by simp) rfl
    rw [show castL (M.take k ++ [nthN M k]) = castL (M.take k) ++ [((nthN M k : Nat) : Int)] by simp [castL], soG_append, ih]
    show soG l [((nthN M k : Nat) : Int)] (bset (M.take k)) = _
    rw [soG_go (hasB_of hg hy) (by rw [bset_mem]; simpa using hyn), bset_app]; rfl
theorem soG_list {l : List Int} (hg : isGrp l = true) (M : List Nat) (hn : M.Nodup) (hM : ∀ y ∈ M, y < ord l) : soG l (castL M) 0 = some (bset M) := by
  have := soG_take hg hn hM M.length (Nat.le_refl _)
  rwa [List.take_length] at this
theorem soB_list {l : List Int} (hg : isGrp l = true) {M : List Nat} (hn : M.Nodup) (hM : ∀ y ∈ M, y < ord l) : soB l (castL M) = true := by
  unfold soB; rw [soG_list hg M hn hM, hg]; rfl
theorem soB_snoc {l : List Int} (hg : isGrp l = true) {M : List Nat} {y : Nat} (hn : M.Nodup) (hM : ∀ z ∈ M, z < ord l) (hy : y < ord l) : soB l (castL (M ++ [y])) = !(bset M).testBit y := by
  unfold soB
  rw [show castL (M ++ [y]) = castL M ++ [(y : Int)] by simp [castL], soG_append, soG_list hg M hn hM, hg]
  show ((soG l [(y : Int)] (bset M)).isSome && true) = _
  cases hb : (bset M).testBit y
  · rw [soG_go (hasB_of hg hy) hb]; rfl
  · rw [soG_bno hb]; rfl

/-! ### maps that keep sums, of lists of any numbers -/
def fineF (g h X Y : List Int) : Bool := Y.all (hasB h) && (soB g X && isGrp h && decide (X.length = Y.length) && decide (1 ≤ X.length ∧ X.length ≤ 6))
def natL (X : List Int) : List Nat := X.map Int.toNat
def fmF (g h X Y : List Int) : Bool := fineF g h X Y && kpB g h (natL X) (natL Y)
def isoF (g h X Y : List Int) : Bool := fmF g h X Y && fmF h g Y X
theorem natL_cast (L : List Nat) : natL (castL L) = L := by
  unfold natL castL; rw [List.map_map]
  have : (Int.toNat ∘ fun n : Nat => (n : Int)) = id := by funext n; rfl
  rw [this, List.map_id]
theorem fine_list {g h : List Int} (hg : isGrp g = true) (hh : isGrp h = true) {L M : List Nat} (hL : L.Nodup) (hLo : ∀ y ∈ L, y < ord g) (hMo : ∀ y ∈ M, y < ord h) (hlm : L.length = M.length) (h1 : 1 ≤ L.length) (h6 : L.length ≤ 6) : fineF g h (castL L) (castL M) = true := by
  unfold fineF
  rw [soB_list hg hL hLo, hh, castL_len, castL_len]
  have : (castL M).all (hasB h) = true := List.all_eq_true.2 fun x hx => by
    unfold castL at hx; obtain ⟨y, hy, rfl⟩ := List.mem_map.1 hx; exact hasB_of hh (hMo y hy)
  rw [this]; simp; omega
theorem iso_list {g h : List Int} (hg : isGrp g = true) (hh : isGrp h = true) {L M : List Nat} (hL : L.Nodup) (hM : M.Nodup) (hLo : ∀ y ∈ L, y < ord g) (hMo : ∀ y ∈ M, y < ord h) (hlm : L.length = M.length) (h1 : 1 ≤ L.length) (h6 : L.length ≤ 6) : isoF g h (castL L) (castL M) = (kpB g h L M && kpB h g M L) := by
  unfold isoF fmF
  rw [fine_list hg hh hL hLo hMo hlm h1 h6, fine_list hh hg hM hMo hLo hlm.symm (by omega) (by omega), natL_cast, natL_cast]; simp

/-! ### the search for an isomorphism -/
def isoK (g h : List Int) (L M : List Nat) : Bool := kpB g h L M && kpB h g M L
def fiI (g h : List Int) (L E : List Nat) : Nat → List Nat → Option (List Nat)
  | 0, _ => none
  | f + 1, M => if M.length = L.length then (if isoK g h L M then some M else none) else E.findSome? (fun y => if (bset M).testBit y then none else fiI g h L E f (M ++ [y]))
def fiS (g h : List Int) (L E : List Nat) : Nat → List Nat → Option (List Nat)
  | 0, _ => none
  | f + 1, M => if M.length = L.length then (if isoK g h L M then some M else none) else E.findSome? (fun y => if (bset M).testBit y || !kpB g h (L.take (M.length + 1)) (M ++ [y]) then none else fiS g h L E f (M ++ [y]))
theorem findSome_at {E : List Nat} {F : Nat → Option (List Nat)} {k : Nat} {r : List Nat} (hk : k < E.length) (h : ∀ k', k' < k → F (nthN E k') = none) (hr : F (nthN E k) = some r) : E.findSome? F = some r := by
  induction E generalizing k with
  | nil => simp at hk
  | cons y E ih =>
    cases k with
    | zero =>
      have : F y = some r := hr
      simp [List.findSome?, this]
    | succ k =>
      have h0 : F y = none := h 0 (by omega)
      simp only [List.findSome?, h0]
      exact ih (k := k) (by simpa using hk) (fun k' hk' => h (k' + 1) (by omega)) hr
theorem findSome_none {E : List Nat} {F : Nat → Option (List Nat)} (h : ∀ k', k' < E.length → F (nthN E k') = none) : E.findSome? F = none := by
  rw [List.findSome?_eq_none_iff]
  intro y hy
  obtain ⟨k, hk, rfl⟩ := List.getElem_of_mem hy
  have := h k hk
  simpa [nthN, List.getD, hk] using this
theorem findSome_get {E : List Nat} {F : Nat → Option (List Nat)} {r : List Nat} (h : E.findSome? F = some r) : ∃ y ∈ E, F y = some r := by
  obtain ⟨l1, y, l2, rfl, hy, -⟩ := List.findSome?_eq_some_iff.1 h
  exact ⟨y, by simp, hy⟩
theorem fiI_ext (g h : List Int) (L E : List Nat) : ∀ f M N, fiI g h L E f M = some N → (∃ R, N = M ++ R) ∧ N.length = L.length ∧ isoK g h L N = true := by
  intro f
  induction f with
  | zero => intro M N e; cases e
  | succ f ih =>
    intro M N e
    unfold fiI at e
    split at e
    · next hl =>
      split at e
      · next hk => cases e; exact ⟨⟨[], by simp⟩, hl, hk⟩
      · cases e
    · obtain ⟨y, -, hy⟩ := findSome_get e
      split at hy
      · cases hy
      · obtain ⟨⟨R, hR⟩, h2, h3⟩ := ih _ _ hy
        exact ⟨⟨y :: R, by rw [hR]; simp⟩, h2, h3⟩
theorem fiS_eq (g h : List Int) (L E : List Nat) : ∀ f M, M.length ≤ L.length → fiS g h L E f M = fiI g h L E f M := by
  intro f
  induction f with
  | zero => intro M _; rfl
  | succ f ih =>
    intro M hM
    unfold fiS fiI
    by_cases hl : M.length = L.length
    · rw [if_pos hl, if_pos hl]
    · rw [if_neg hl, if_neg hl]
      congr 1
      funext y
      by_cases hb : (bset M).testBit y = true
      · simp [hb]
      · have hb' : (bset M).testBit y = false := by simpa using hb
        rw [hb']
        by_cases hk : kpB g h (L.take (M.length + 1)) (M ++ [y]) = true
        · rw [hk]; simp; exact ih _ (by simp; omega)
        · have hk' : kpB g h (L.take (M.length + 1)) (M ++ [y]) = false := by simpa using hk
          rw [hk']
          simp
          cases hf : fiI g h L E f (M ++ [y]) with
          | none => rfl
          | some N =>
            exfalso
            obtain ⟨⟨R, hR⟩, h2, h3⟩ := fiI_ext g h L E _ _ _ hf
            unfold isoK at h3
            rw [Bool.and_eq_true] at h3
            have := kpB_take (n := M.length + 1) (by omega) h3.1
            rw [hR, show (M ++ [y] ++ R).take (M.length + 1) = M ++ [y] by
              rw [show M.length + 1 = (M ++ [y]).length by simp]; exact List.take_left] at this
            exact hk this
def ffC (g h : List Int) (a b : Int) : Bool := isSetB g a && isSetB h b && (decide (cnt a.toNat = cnt b.toNat) && decide (1 ≤ cnt a.toNat ∧ cnt a.toNat ≤ 5))
def ffR (g h : List Int) (a b : Int) : Option (List Nat) := if ffC g h a b then fiI g h (elems a.toNat) (elems b.toNat) (cnt a.toNat + 1) [] else none
def ffL (g h : List Int) (a b : Int) : List Nat := (ffR g h a b).getD []
def ffB (g h : List Int) (a b : Int) : Bool := (ffR g h a b).isSome
theorem ff_no {g h : List Int} {a b : Int} (e : ffR g h a b = none) : ffL g h a b = [] ∧ ffB g h a b = false := by unfold ffL ffB; rw [e]; exact ⟨rfl, rfl⟩
theorem ff_yes {g h : List Int} {a b : Int} {N : List Nat} (e : ffR g h a b = some N) : ffL g h a b = N ∧ ffB g h a b = true := by unfold ffL ffB; rw [e]; exact ⟨rfl, rfl⟩
end Go.Zz

/- Whether a map keeps sums: of the program and of the reference. -/
namespace Go.Zz
open Go.RowKit Go.Proofs
set_option maxHeartbeats 4000000
set_option maxRecDepth 8000

end Go.Zz

/- Sets out of lists; maps that keep sums: SetOf, l15Fine, IsFreimanMap, IsFreimanIso of the reference. -/
namespace Go.Zz
open Go.RowKit Go.Proofs
set_option maxHeartbeats 1000000
set_option maxRecDepth 4000

theorem fine_nat {g h X Y : List Int} (H : fineF g h X Y = true) : isGrp g = true ∧ isGrp h = true ∧ (∃ L M, X = castL L ∧ Y = castL M ∧ (∀ y ∈ L, y < 24) ∧ (∀ y ∈ M, y < 24)) ∧ X.length = Y.length ∧ X.length ≤ 6 := by
  unfold fineF at H
  simp only [Bool.and_eq_true, decide_eq_true_eq] at H
  obtain ⟨h1, ⟨⟨h2, h3⟩, h4⟩, -, h5⟩ := H
  unfold soB at h2
  rw [Bool.and_eq_true] at h2
  have key : ∀ (X : List Int) (a : Nat), (soG g X a).isSome = true → ∀ x ∈ X, hasB g x = true := by
    intro X
    induction X with
    | nil => intro a _ x hx; cases hx
    | cons y X ih =>
      intro a e x hx
      unfold soG at e
      split at e
      · next hc =>
        rw [Bool.and_eq_true] at hc
        rcases List.mem_cons.1 hx with rfl | hx
        · exact hc.1
        · exact ih _ e x hx
      · cases e
  have toN : ∀ (l : List Int) (X : List Int), (∀ x ∈ X, hasB l x = true) → X = castL (natL X) ∧ ∀ y ∈ natL X, y < 24 := by
    intro l X hX
    constructor
    · unfold castL natL; rw [List.map_map]
      conv => lhs; rw [← List.map_id X]
      refine List.map_congr_left fun x hx => ?_
      obtain ⟨n, rfl, -, -⟩ := hasB_nat (hX x hx); rfl
    · intro y hy
      unfold natL at hy
      obtain ⟨x, hx, rfl⟩ := List.mem_map.1 hy
      obtain ⟨n, rfl, hn, hg⟩ := hasB_nat (hX x hx)
      have := (ord_bd hg).2
      show n < 24; omega
  obtain ⟨a1, a2⟩ := toN g X (key X 0 h2.1)
  obtain ⟨b1, b2⟩ := toN h Y (List.all_eq_true.1 h1)
  exact ⟨h2.2, h3, ⟨_, _, a1, b1, a2, b2⟩, h4, h5⟩
end Go.Zz

/- Steps of regions that draw their order: a struct variable is made, a struct is stored into it. -/
namespace Go.Zz
open Go.RowKit Go.Proofs
set_option maxHeartbeats 2000000
set_option maxRecDepth 20000

/-- append([]int{}, xs...) as a step of a region that draws its order; where its block lies -/
theorem step_copy2 {P : Program} {ops : Array Oper} {o : Oper} {a : Act} {w : World} {K : Act → World → Prop} {Q : Exit → Act → World → Prop} {E : Prop} {T TI : TypeId} (hT : IntSl P T TI)
    (hg : o.guard = none) (s x : Operand) (hop : o.op = Op.call { callee := Callee.builtin Builtin.append, args := #[s, x], argTypes := #[T, T] })
    (g : Nat) (u : Value) (m : List Int) (hs : a.eval s = .slice (some ⟨g, 0, none⟩) 0 0) (hx : a.eval x = u) (hB : Blk w g TI #[]) (hI : Ints w u m) (w0 : World) (h0 : w0.heap.size ≤ g) (hE : Ext w0 w)
    (hK : ∀ ao c w', Own TI w0 w' (.slice ao m.length c) m → (∀ k, (Value.slice ao m.length c).ownBlock = some k → k = g ∨ w.heap.size ≤ k) → Ext w w' → K (a.put o.dst (.slice ao m.length c)) w') :
    if Region.wanted o (yielded ops a.tmps) = true then Oper.wp P o a w K Q else E := by
  have hw : Region.wanted o (yielded ops a.tmps) = true := by simp [Region.wanted, hg]
  rw [if_pos hw]
  obtain ⟨i, hi, hz, hs1, hby⟩ := hT.info
  have hown : w.ownsRow w0.heap.size TI 1 (.slice (some ⟨g, 0, none⟩) 0 0) 0 [] := by
    have hB' : w.heap[g]? = some (.cells #[] TI (0, 0)) := hB
    exact ⟨by simp, Or.inr ⟨g, 0, #[], rfl, h0, hB', Nat.le_refl _, Nat.zero_le _, by simp, by simp⟩⟩
  obtain ⟨ao, c, rfl, hmc, hml, hc⟩ := hI
  have key : m = [] → Oper.wp P o a w K Q := by
    intro hm
    subst hm
    have hrun2 : (Builtin.append_ #[T, T] o.type #[.slice (some ⟨g, 0, none⟩) 0 0, .slice ao 0 c]).run P w = .ok (.slice (some ⟨g, 0, none⟩) 0 0) w := by
      have hrun := run_append_owned_none (P := P) w w0.heap.size T o.type TI i 1 hT.und hi (.slice (some ⟨g, 0, none⟩) 0 0) 0 [] hown
      rw [← hrun]; cases ao <;> simp [Builtin.append_, run_underlying hT.und, sizeOf, typeInfo, hi, Builtin.lenOf, Builtin.firstCells, go_sem]
    unfold Oper.wp
    simp [execOp, hop, resolve, invoke, builtin, hs, hx, hrun2, Result.andThen]
    exact hK (some ⟨g, 0, none⟩) 0 _ ⟨by simpa using hown, by simp⟩ (fun k hk => by simp [Value.ownBlock] at hk; exact Or.inl hk.symm) (Ext.refl w)
  by_cases hm : m = []
  · exact key hm
  · have hpos : 0 < m.length := Nat.pos_of_ne_zero (fun e => hm (List.eq_nil_of_length_eq_zero e))
    cases ao with
    | none => obtain ⟨_, h, _⟩ := hc 0 hpos; cases h
    | some ad =>
      obtain ⟨v', w', hrun, r1, r2⟩ := run_append_arg_grows (P := P) (w := w) T o.type TI i (.int .i64 0) 1 8 hT.und hi hz hs1 hby rfl (by omega) ⟨g, 0, none⟩ 0 0 [] (by simp) (by simp) ad m.length c (m.map (Value.int .i64)) (by simp) (by
        intro j u hu
        have hj : j < m.length := by have := (List.getElem?_eq_some_iff.1 hu).1; simpa using this
        obtain ⟨a', ha', hc'⟩ := hc j hj
        cases ha'
        rw [hc', ← hu, nth_get _ _ hj]; simp [hj]) (by omega) (by unfold maxLen; omega) (by omega)
      unfold Oper.wp
      simp [execOp, hop, resolve, invoke, builtin, hs, hx, hrun, Result.andThen]
      have hO' : Own TI w w' v' m := ⟨by simpa using r1, hml⟩
      obtain ⟨ao', c', rfl, -⟩ := hO'.shape
      exact hK ao' c' w' (hO'.mono hE) (fun k hk => Or.inr (hO'.blk k hk).1) ((Ext.refl w).grown r2 (by simp))
theorem step_build {ops : Array Oper} {o : Oper} {a : Act} {w : World} {K : Act → World → Prop} {Q : Exit → Act → World → Prop} {E : Prop} (hg : o.guard = none) (hop : o.op = Op.buildSlice 24 0 #[])
    (hK : ∀ g w', Blk w' g 3 #[] → w.heap.size ≤ g → Ext w w' → K (a.put o.dst (.slice (some ⟨g, 0, none⟩) 0 0)) w') :
    if Region.wanted o (yielded ops a.tmps) = true then Oper.wp Tryz.prog o a w K Q else E := by
  have hw : Region.wanted o (yielded ops a.tmps) = true := by simp [Region.wanted, hg]
  rw [if_pos hw]
  have := hK w.heap.size (w.alloc (.cells #[] 3)) (Blk.new _ _ _) (Nat.le_refl _) ((Ext.refl w).alloc _)
  unfold Oper.wp
  simp [execOp, hop, Result.andThen, go_sem]
  exact this
theorem grown_setCell (w : World) (a : Addr) (u : Value) : w.grownBy (w.setCell a u) (some a.block) :=
  ⟨rfl, rfl, rfl, by simp, fun k _ hk => Below.heap_setCell _ _ _ _ (fun e => hk (by rw [e]))⟩
theorem Own.setCell_ne {TI : TypeId} {w0 w : World} {v : Value} {l : List Int} (h : Own TI w0 w v l) {p : Addr} (hp : v.ownBlock ≠ some p.block) (u : Value) : Own TI w0 (w.setCell p u) v l :=
  h.kept (grown_setCell w p u) (Or.inr hp)
theorem Own.ne_of {TI : TypeId} {w0 w : World} {v : Value} {l : List Int} (h : Own TI w0 w v l) {b : Nat} (hb : b < w0.heap.size ∨ w.heap.size ≤ b) : v.ownBlock ≠ some b := fun e => by
  have := h.blk b e; omega
/-- a row of another type lies in another block -/
theorem Own.ne_blk {TI T : TypeId} {w0 w : World} {v : Value} {l : List Int} (h : Own TI w0 w v l) {g : Nat} {cs : Array Value} (hB : Blk w g T cs) (hT : T ≠ TI) : v.ownBlock ≠ some g := fun e => by
  obtain ⟨h1, h2⟩ := h
  rcases h1.2 with ⟨rfl, _⟩ | ⟨g', cap, cur, rfl, _, hh, _⟩
  · cases e
  · simp [Value.ownBlock] at e
    subst e
    have hB' : w.heap[g']? = some (.cells cs T (0, 0)) := hB
    rw [hB'] at hh
    simp at hh
    exact hT hh.2
end Go.Zz
