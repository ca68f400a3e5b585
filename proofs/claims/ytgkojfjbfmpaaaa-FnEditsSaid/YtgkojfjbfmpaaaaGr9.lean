/- The drawing of arguments: numbers below a bound, one of a list. -/
import Derived.Test.YtgkojfjbfmpaaaaGr8
import Derived.Test.YtgkojfjbfmpaaaaGr4
import Derived.Deep.RegionHeld3
import Derived.Deep.RegionWith
namespace Go.Zz
open Go.RowKit Go.Proofs
set_option maxHeartbeats 2000000
set_option maxRecDepth 8000

/-- a number that a draw may give where it is asked for one below n -/
def Bel (n x : Int) : Prop := (n ≤ 0 → x = 0) ∧ (0 < n → 0 ≤ x ∧ x < n)
theorem l1Below_any (w0 w : World) (p : Nat) (n : Int) (hn : n ≤ 256) (h : Cur w0 w p) :
    Calls Try.prog 145 #[.pointer (some ⟨p, 0, none⟩), .int .i64 n] w fun e w' => ∃ x, e = .returned (.int .i64 x) ∧ Bel n x ∧ Cur w0 w' p ∧ Drw p w w' := by
  by_cases h0 : n ≤ 0
  · have Hb : Hid (Bel n 0) := Lib.hid ⟨fun _ => rfl, fun e => by omega⟩
    go_enter Try.func145, Try.ntmps145
    go_wp2_with fail
    go_ret
    exact ⟨0, rfl, Hb.out, h, Drw.refl p w⟩
  · have hp : 0 < n := by omega
    go_enter Try.func145, Try.ntmps145
    go_wp2_with fail
    refine (l1Byte_any w0 w p h).mono ?_
    rintro e w1 ⟨x, rfl, hx0, hx1, hC, hF⟩
    have hm1 : 0 ≤ x % n := Int.emod_nonneg _ (by omega)
    have hm2 : x % n < n := Int.emod_lt_of_pos _ hp
    have Hb : Hid (Bel n (x % n)) := Lib.hid ⟨fun e => by omega, fun _ => ⟨hm1, hm2⟩⟩
    have hn0 : ¬ n = 0 := by omega
    have htm : x.tmod n = x % n := Int.tmod_eq_emod_of_nonneg hx0
    go_wp2_with fail
    go_ret
    exact ⟨_, rfl, Hb.out, hC, hF⟩
theorem l1Once_any (w0 w : World) (p : Nat) (n : Int) (hn : n ≤ 256) (h : Cur w0 w p) :
    Calls Try.prog 78 #[.pointer (some ⟨p, 0, none⟩), .int .i64 n] w fun e w' => ∃ b, e = .returned (.bool b) ∧ Cur w0 w' p ∧ Drw p w w' := by
  go_enter Try.func78, Try.ntmps78
  go_wp2_with fail
  refine (l1Below_any w0 w p n hn h).mono ?_
  rintro e w1 ⟨x, rfl, -, hC, hF⟩
  go_wp2_with fail
  go_ret
  exact ⟨_, rfl, hC, hF⟩
theorem l1PickInt_any (w0 w wA : World) (p : Nat) (u : Value) (L : List Int) (h : Cur w0 w p) (hO : Own 3 wA w u L) (hp : p < wA.heap.size) (h1 : 1 ≤ L.length) (h2 : L.length ≤ 256) :
    Calls Try.prog 144 #[.pointer (some ⟨p, 0, none⟩), u] w fun e w' => ∃ k, k < L.length ∧ e = .returned (.int .i64 (nth L k)) ∧ Cur w0 w' p ∧ Drw p w w' := by
  obtain ⟨ao, c, rfl, -⟩ := hO.shape
  go_enter Try.func144, Try.ntmps144
  go_wp2_with fail
  refine (l1Below_any w0 w p L.length (by omega) h).mono ?_
  rintro e w1 ⟨x, rfl, hb, hC, hF⟩
  obtain ⟨hx0, hx1⟩ := hb.2 (by omega)
  obtain ⟨k, rfl⟩ := Int.eq_ofNat_of_zero_le hx0
  have hk : k < L.length := by omega
  obtain ⟨ao', c', adr, hv, -, hadr, hcell⟩ := (hF.own hO hp).ints.op
  simp only [Value.slice.injEq] at hv
  obtain ⟨rfl, -, rfl⟩ := hv
  have hix := ints_index (c := c) elI szI hadr k
  have hck := hcell k w1 hk (Ext.refl _)
  clear hadr hcell
  go_wp2_with fail
  go_ret
  exact ⟨k, hk, rfl, hC, hF⟩
/-- rows of a list of lists, allocated one behind the other -/
def litW (T : TypeId) (w : World) (Ls : List (List Int)) : World := Ls.foldl (fun w L => w.alloc (.cells (L.map (Value.int .i64)).toArray T)) w
theorem litW_cons (T : TypeId) (w : World) (L : List Int) (Ls : List (List Int)) : litW T w (L :: Ls) = litW T (w.alloc (.cells (L.map (Value.int .i64)).toArray T)) Ls := rfl
theorem litW_ext (T : TypeId) : ∀ (Ls : List (List Int)) (w : World), Ext w (litW T w Ls)
  | [], w => Ext.refl w
  | L :: Ls, w => Ext.trans ((Ext.refl w).alloc _) (litW_ext T Ls _)
theorem litW_size (T : TypeId) : ∀ (Ls : List (List Int)) (w : World), (litW T w Ls).heap.size = w.heap.size + Ls.length
  | [], w => rfl
  | L :: Ls, w => by rw [litW_cons, litW_size T Ls]; simp; omega
theorem litW_own (T : TypeId) : ∀ (Ls : List (List Int)) (w : World), (∀ L ∈ Ls, L.length ≤ 1000) → ∀ k L, Ls[k]? = some L → Own T w (litW T w Ls) (.slice (some ⟨w.heap.size + k, 0, none⟩) L.length L.length) L
  | [], _, _, k, L, h => by simp at h
  | M :: Ls, w, hb, k, L, h => by
    rw [litW_cons]
    cases k with
    | zero =>
      simp at h
      subst h
      exact (own_made (TI := T) (by have := hb M (by simp); omega) (Ext.refl w) M rfl).ext (litW_ext T Ls _)
    | succ k =>
      have := litW_own T Ls (w.alloc (.cells (M.map (Value.int .i64)).toArray T)) (fun N hN => hb N (by simp [hN])) k L (by simpa using h)
      have e : (w.alloc (.cells (M.map (Value.int .i64)).toArray T)).heap.size + k = w.heap.size + (k + 1) := by simp; omega
      rw [e] at this
      exact this.mono ((Ext.refl w).alloc _)
def gLits : List (List Int) := [[], [2], [3], [4], [5], [6], [7], [8], [9], [10], [11], [12], [2, 2], [2, 4], [3, 3], [2, 6], [2, 2, 2], [13], [16], [4, 4], [2, 2, 3], [2, 3], [24]]
def litV (n : Nat) : List (List Int) → List Value
  | [] => []
  | L :: Ls => .slice (some ⟨n, 0, none⟩) L.length L.length :: litV (n + 1) Ls
theorem litV_get : ∀ (Ls : List (List Int)) (n k : Nat) (L : List Int), Ls[k]? = some L → (litV n Ls)[k]? = some (.slice (some ⟨n + k, 0, none⟩) L.length L.length)
  | [], _, k, L, h => by simp at h
  | M :: Ls, n, k, L, h => by
    cases k with
    | zero => simp at h; subst h; rfl
    | succ k =>
      have := litV_get Ls (n + 1) k L (by simpa using h)
      rw [show n + 1 + k = n + (k + 1) by omega] at this
      simpa [litV] using this
theorem l2Draw_any (w0 w : World) (p : Nat) (m : Int) (h : Cur w0 w p) :
    Calls Try.prog 146 #[.pointer (some ⟨p, 0, none⟩), .int .i64 m] w fun e w' => ∃ ao L c, e = .returned (.agg #[.slice ao (List.length L) c]) ∧ Own 3 w w' (.slice ao (List.length L) c) L ∧ Cur w0 w' p ∧ Drw p w w' := by
  go_enter Try.func146, Try.ntmps146
  go_wp2_with fail
  change Calls _ _ _ ((litW 3 (w.alloc (.cells #[.slice none 0 0] 26)) gLits).alloc (.cells (litV (w.heap.size + 1) gLits).toArray 24)) _
  have hB0 : Blk (w.alloc (.cells #[.slice none 0 0] 26)) w.heap.size 26 #[.slice none 0 0] := Blk.new _ _ _
  have hE0 : Ext w (w.alloc (.cells #[.slice none 0 0] 26)) := (Ext.refl w).alloc _
  have hs0 : (w.alloc (.cells #[.slice none 0 0] 26)).heap.size = w.heap.size + 1 := by simp
  have hOl := fun k L (hk : gLits[k]? = some L) => litW_own 3 gLits (w.alloc (.cells #[.slice none 0 0] 26)) (by decide) k L hk
  have hE1 := litW_ext 3 gLits (w.alloc (.cells #[.slice none 0 0] 26))
  have hs1 := litW_size 3 gLits (w.alloc (.cells #[.slice none 0 0] 26))
  generalize litW 3 (w.alloc (.cells #[.slice none 0 0] 26)) gLits = w1 at hOl hE1 hs1 ⊢
  generalize w.alloc (.cells #[.slice none 0 0] 26) = wA at hB0 hE0 hs0 hOl hE1 hs1
  have hlen : gLits.length = 23 := rfl
  rw [hs0, hlen] at hs1
  have hBg : Blk (w1.alloc (.cells (litV (w.heap.size + 1) gLits).toArray 24)) (w.heap.size + 1 + 1 + 1 + 1 + 1 + 1 + 1 + 1 + 1 + 1 + 1 + 1 + 1 + 1 + 1 + 1 + 1 + 1 + 1 + 1 + 1 + 1 + 1 + 1) 24 (litV (w.heap.size + 1) gLits).toArray := Blk.new' (by omega)
  have hE2 : Ext w1 (w1.alloc (.cells (litV (w.heap.size + 1) gLits).toArray 24)) := (Ext.refl w1).alloc _
  generalize w1.alloc (.cells (litV (w.heap.size + 1) gLits).toArray 24) = w2 at hBg hE2 ⊢
  have hp := h.lt
  have hC2 := h.ext (hE0.trans (hE1.trans hE2))
  refine (l1Below_any w0 w2 p 23 (by omega) hC2).mono ?_
  rintro e w3 ⟨x, rfl, hb, hC, hF⟩
  obtain ⟨hx0, hx1⟩ := hb.2 (by omega)
  obtain ⟨k, rfl⟩ := Int.eq_ofNat_of_zero_le hx0
  have hk : k < 23 := by omega
  obtain ⟨L, hL⟩ : ∃ L, gLits[k]? = some L := ⟨_, List.getElem?_eq_getElem (by rw [hlen]; exact hk)⟩
  have hO3 := hF.own ((hOl k L hL).ext hE2) (by omega)
  have hBg3 := hF.blk hBg (by omega)
  have hcg := hBg3.cell (i := k) (v := .slice (some ⟨w.heap.size + 1 + k, 0, none⟩) L.length L.length) (by simpa using litV_get gLits (w.heap.size + 1) k L hL)
  have hB3 := hF.blk (hB0.ext (hE1.trans hE2)) (by omega)
  have hl3 : L.length ≤ 3 := by
    have : ∀ L ∈ gLits, L.length ≤ 3 := by decide
    exact this L (List.mem_of_getElem? hL)
  rw [hs0] at hO3
  obtain ⟨g, hg⟩ : ∃ g, g = w.heap.size + 1 + 1 + 1 + 1 + 1 + 1 + 1 + 1 + 1 + 1 + 1 + 1 + 1 + 1 + 1 + 1 + 1 + 1 + 1 + 1 + 1 + 1 + 1 + 1 := ⟨_, rfl⟩
  rw [← hg] at hcg ⊢
  have hixV : ∀ W, (Instr.indexAt 97 (.slice (some ⟨g, 0, none⟩) 23 23) (.int .i64 (k : Int))).run Try.prog W = .ok (.pointer (some ⟨g, k, none⟩)) W := fun W => by
    rw [run_indexAt_slice (h := elV), if_pos (by omega), szV]
    simp [Result.andThen, Addr.add_lit]
  obtain ⟨b, hbd⟩ : ∃ b, b = w.heap.size + 1 + k := ⟨_, rfl⟩
  rw [← hbd] at hcg hO3
  obtain ⟨ao', c', adr, hv, -, hadr, hcell⟩ := hO3.ints.op
  simp only [Value.slice.injEq] at hv
  obtain ⟨rfl, -, rfl⟩ := hv
  have hixo := ints_index (c := L.length) elI szI hadr
  have Hcell := Lib.hid hcell
  have hkb := hB3.cell (i := 0) (v := .slice none 0 0) rfl
  have hfb := hB3.free 0
  have hF3 := Lib.hid (((hE0.trans (hE1.trans hE2)).drw p).trans hF)
  have hsz := hF.size
  have HE0 := Lib.hid hE0
  clear hadr hcell hB0 hE0 hs0 hOl hE1 hs1 hBg hE2 hC2 hF hb hL hBg3 hg hbd
  go_wp2_with fail
  go_loopw [7, 8] (fun sn si wr => ∃ (q : Nat) (n : Int), q ≤ L.length ∧ si = .int .i64 q ∧ sn = .int .i64 n ∧ wr = w3) (fun _ si _ => L.length - (intOf si).toNat)
  case atStart => exact ⟨0, _, by omega, rfl, rfl, rfl⟩
  case round =>
    obtain ⟨q, n, hq, rfl, rfl, rfl⟩ := hrel
    by_cases hlt : q < L.length
    · have hltI : (q : Int) < (L.length : Int) := by omega
      have hck := Hcell.out q wr hlt (Ext.refl _)
      go_wp2_with fail
      go_roundw
      case rel => exact ⟨q + 1, _, by omega, by go_num, rfl, by trivial⟩
      case measure => (simp [intOf]; omega)
    · have hltI : ¬ (q : Int) < (L.length : Int) := by omega
      have hsw : w.heap.size < wr.heap.size := hB3.lt
      by_cases hgt : m < n
      · have hO := (own_made (TI := 3) (n := 1) (by omega) (Ext.refl wr) [5] rfl)
        have hBn := hB3.alloc (.cells #[.int .i64 5] 3)
        have kbn := hBn.cell (i := 0) (v := .slice none 0 0) rfl
        have fbn := hBn.free 0
        have kres := (hBn.set 0 (.slice (some ⟨wr.heap.size, 0, none⟩) 1 1)).cell (i := 0) (v := .slice (some ⟨wr.heap.size, 0, none⟩) 1 1) rfl
        go_wp2_with fail
        clear kbn fbn hBn hO kres
        have hs5 : (wr.setCell ⟨w.heap.size, 0, none⟩ (.slice (some ⟨wr.heap.size, 0, none⟩) 1 1)).heap.size = wr.heap.size := by simp
        have hO5 := (own_made (TI := 3) (n := 1) (by omega) (Ext.refl (wr.setCell ⟨w.heap.size, 0, none⟩ (.slice (some ⟨wr.heap.size, 0, none⟩) 1 1))) [5] rfl).low (w0 := w) (by omega)
        rw [hs5] at hO5
        have hC5 := (hC.other (b := w.heap.size) (i := 0) (by omega) (by omega) (.slice (some ⟨wr.heap.size, 0, none⟩) 1 1)).alloc (.cells #[.int .i64 5] 3)
        have hF5 := (hF3.out.set (Nat.le_refl _) 0 (.slice (some ⟨wr.heap.size, 0, none⟩) 1 1)).alloc (.cells #[.int .i64 5] 3)
        have kres := ((hB3.set 0 (.slice (some ⟨wr.heap.size, 0, none⟩) 1 1)).alloc (.cells #[.int .i64 5] 3)).cell (i := 0) (v := .slice (some ⟨wr.heap.size, 0, none⟩) 1 1) rfl
        change Own _ _ (World.alloc _ (.cells #[.int .i64 5] _)) _ _ at hO5
        generalize (wr.setCell ⟨w.heap.size, 0, none⟩ (.slice (some ⟨wr.heap.size, 0, none⟩) 1 1)).alloc (.cells #[.int .i64 5] 3) = w5 at kres hO5 hC5 hF5 ⊢
        refine bodyPost_ret (v := .agg #[.slice (some ⟨wr.heap.size, 0, none⟩) 1 1]) (by simp [results, Try.results146, go_sem, kres]) rfl ⟨_, [5], _, rfl, hO5, hC5, hF5⟩
      · have hO := (own_made (TI := 3) (n := 0) (by omega) (Ext.refl wr) [] rfl)
        have hIL := (hO3.alloc (.cells #[] 3)).ints
        have hEr := (Ext.refl wr).alloc (.cells #[] 3)
        go_wp2_with (at_builtin; refine wp_appends slI rfl _ _ rfl _ _ _ _ _ _ hO hIL hEr (by simp; omega) rfl rfl ?_; intro v1 w4 hO4 hE4; obtain ⟨a4, c4, rfl, -⟩ := hO4.shape; rw [List.nil_append] at hO4; have hB4 := hB3.ext hE4; have k4 := hB4.cell (i := 0) (v := .slice none 0 0) rfl; have f4 := hB4.free 0)
        have kres := (hB4.set 0 (.slice a4 L.length c4)).cell (i := 0) (v := .slice a4 L.length c4) rfl
        have hO5 := (Own.setCell_below hO4 (p := ⟨w.heap.size, 0, none⟩) hsw (.slice a4 L.length c4)).low (Nat.le_of_lt hsw)
        have hC5 := (hC.ext hE4).other (b := w.heap.size) (i := 0) (by omega) (by omega) (.slice a4 L.length c4)
        have hF5 := (hF3.out.trans (hE4.drw p)).set (Nat.le_refl _) 0 (.slice a4 L.length c4)
        generalize w4.setCell ⟨w.heap.size, 0, none⟩ (.slice a4 L.length c4) = w5 at kres hO5 hC5 hF5 ⊢
        refine bodyPost_ret (v := .agg #[.slice a4 L.length c4]) (by simp [results, Try.results146, go_sem, kres]) rfl ⟨_, L, _, rfl, hO5, hC5, hF5⟩
end Go.Zz

/- The drawing of groups, elements and sets. -/
namespace Go.Zz
open Go.RowKit Go.Proofs
set_option maxHeartbeats 2000000
set_option maxRecDepth 8000

theorem l2Any_any (w0 w : World) (p : Nat) (h : Cur w0 w p) :
    Calls Try.prog 142 #[.pointer (some ⟨p, 0, none⟩)] w fun e w' => ∃ ao L c, e = .returned (.agg #[.slice ao (List.length L) c]) ∧ Own 3 w w' (.slice ao (List.length L) c) L ∧ Cur w0 w' p ∧ Drw p w w' := by
  have hp := h.lt
  have hB0 : Blk (w.alloc (.cells #[.slice none 0 0] 26)) w.heap.size 26 #[.slice none 0 0] := Blk.new _ _ _
  have hs0 : (w.alloc (.cells #[.slice none 0 0] 26)).heap.size = w.heap.size + 1 := by simp
  go_enter Try.func142, Try.ntmps142
  go_wp2_with fail
  refine (l2Draw_any w0 _ p 24 (h.alloc _)).mono ?_
  rintro e w2 ⟨ao, L, c, rfl, hO2, hC2, hF2⟩
  have hB2 := hF2.blk hB0 (by omega)
  have hsz2 := hF2.size
  have hF02 := (((Ext.refl w).alloc (.cells #[.slice none 0 0] 26)).drw p).trans hF2
  have hBg : Blk (w2.alloc (.cells #[.slice ao L.length c] 26)) w2.heap.size 26 #[.slice ao L.length c] := Blk.new _ _ _
  clear hB0 hF2
  go_wp2_with fail
  refine (l1Below_any w0 _ p 16 (by omega) (hC2.alloc _)).mono ?_
  rintro e w3 ⟨x, rfl, hb, hCr, hF3⟩
  obtain ⟨hx0, hx1⟩ := hb.2 (by omega)
  have hBr := hF3.blk (hB2.alloc (.cells #[.slice ao L.length c] 26)) (by omega)
  have hBg3 := hF3.blk hBg (by omega)
  have hO3 := hF3.own (hO2.alloc (.cells #[.slice ao L.length c] 26)) (by omega)
  have hsz3 := hF3.size
  have hsz4 : w2.heap.size + 1 = (w2.alloc (.cells #[.slice ao L.length c] 26)).heap.size := by simp
  have hFr := Lib.hid ((hF02.alloc (.cells #[.slice ao L.length c] 26)).trans hF3)
  clear hB2 hBg hO2 hF3 hF02
  by_cases e0 : x = 0
  · subst e0
    have hOl := own_made (TI := 3) (n := 5) (by omega) (Ext.refl w3) [0, 1, -1, 25, 9223372036854775807] rfl
    go_wp2_with fail
    refine (l1PickInt_any w0 _ w3 p _ _ (hCr.alloc _) hOl (by omega) (by decide) (by decide)).mono ?_
    rintro e w4 ⟨k, hk, rfl, hC4, hF4⟩
    have hBr4 := hF4.blk (hBr.alloc _) (by omega)
    have hFr4 := Lib.hid ((hFr.out.alloc _).trans hF4)
    have hsz5 := hF4.size
    obtain ⟨y, hy⟩ : ∃ y, y = nth [0, 1, -1, 25, 9223372036854775807] k := ⟨_, rfl⟩
    rw [← hy]
    clear hy hBr hFr hCr hF4 hOl hk
    have hBr := hBr4
    have hFr := hFr4
    have hCr := hC4
    clear hBr4 hFr4 hC4
    have hsw := hBr.lt
    have hBn := hBr.alloc (.cells #[.int .i64 y] 3)
    have kbn := hBn.cell (i := 0) (v := .slice none 0 0) rfl
    have fbn := hBn.free 0
    go_wp2_with fail
    clear kbn fbn hBn
    have hs5 : (w4.setCell ⟨w.heap.size, 0, none⟩ (.slice (some ⟨w4.heap.size, 0, none⟩) 1 1)).heap.size = w4.heap.size := by simp
    have hO5 := (own_made (TI := 3) (n := 1) (by omega) (Ext.refl (w4.setCell ⟨w.heap.size, 0, none⟩ (.slice (some ⟨w4.heap.size, 0, none⟩) 1 1))) [y] rfl).low (w0 := w) (by have := hBr.lt; omega)
    rw [hs5] at hO5
    have hC5 := (hCr.other (b := w.heap.size) (i := 0) (by omega) (by omega) (.slice (some ⟨w4.heap.size, 0, none⟩) 1 1)).alloc (.cells #[.int .i64 y] 3)
    have hF5 := (hFr.out.set (Nat.le_refl _) 0 (.slice (some ⟨w4.heap.size, 0, none⟩) 1 1)).alloc (.cells #[.int .i64 y] 3)
    have kres := ((hBr.set 0 (.slice (some ⟨w4.heap.size, 0, none⟩) 1 1)).alloc (.cells #[.int .i64 y] 3)).cell (i := 0) (v := .slice (some ⟨w4.heap.size, 0, none⟩) 1 1) rfl
    change Own _ _ (World.alloc _ (.cells #[.int .i64 y] _)) _ _ at hO5
    generalize (w4.setCell ⟨w.heap.size, 0, none⟩ (.slice (some ⟨w4.heap.size, 0, none⟩) 1 1)).alloc (.cells #[.int .i64 y] 3) = w5 at kres hO5 hC5 hF5 ⊢
    refine bodyPost_ret (v := .agg #[.slice (some ⟨w4.heap.size, 0, none⟩) 1 1]) (by simp [results, Try.results142, go_sem, kres]) rfl ⟨_, [y], _, rfl, hO5, hC5, hF5⟩
  · have h0 : (x == 0) = false := by rw [beq_eq_false_iff_ne]; exact e0
    by_cases e1 : x = 1
    · subst e1
      have hsw := hBr.lt
      have hBn := hBr.alloc (.cells #[.int .i64 2,.int .i64 2,.int .i64 2,.int .i64 2] 3)
      have kbn := hBn.cell (i := 0) (v := .slice none 0 0) rfl
      have fbn := hBn.free 0
      go_wp2_with fail
      clear kbn fbn hBn
      have hs5 : (w3.setCell ⟨w.heap.size, 0, none⟩ (.slice (some ⟨w3.heap.size, 0, none⟩) 4 4)).heap.size = w3.heap.size := by simp
      have hO5 := (own_made (TI := 3) (n := 4) (by omega) (Ext.refl (w3.setCell ⟨w.heap.size, 0, none⟩ (.slice (some ⟨w3.heap.size, 0, none⟩) 4 4))) [2,2,2,2] rfl).low (w0 := w) (by have := hBr.lt; omega)
      rw [hs5] at hO5
      have hC5 := (hCr.other (b := w.heap.size) (i := 0) (by omega) (by omega) (.slice (some ⟨w3.heap.size, 0, none⟩) 4 4)).alloc (.cells #[.int .i64 2,.int .i64 2,.int .i64 2,.int .i64 2] 3)
      have hF5 := (hFr.out.set (Nat.le_refl _) 0 (.slice (some ⟨w3.heap.size, 0, none⟩) 4 4)).alloc (.cells #[.int .i64 2,.int .i64 2,.int .i64 2,.int .i64 2] 3)
      have kres := ((hBr.set 0 (.slice (some ⟨w3.heap.size, 0, none⟩) 4 4)).alloc (.cells #[.int .i64 2,.int .i64 2,.int .i64 2,.int .i64 2] 3)).cell (i := 0) (v := .slice (some ⟨w3.heap.size, 0, none⟩) 4 4) rfl
      change Own _ _ (World.alloc _ (.cells #[.int .i64 2,.int .i64 2,.int .i64 2,.int .i64 2] _)) _ _ at hO5
      generalize (w3.setCell ⟨w.heap.size, 0, none⟩ (.slice (some ⟨w3.heap.size, 0, none⟩) 4 4)).alloc (.cells #[.int .i64 2,.int .i64 2,.int .i64 2,.int .i64 2] 3) = w5 at kres hO5 hC5 hF5 ⊢
      refine bodyPost_ret (v := .agg #[.slice (some ⟨w3.heap.size, 0, none⟩) 4 4]) (by simp [results, Try.results142, go_sem, kres]) rfl ⟨_, [2,2,2,2], _, rfl, hO5, hC5, hF5⟩
    · have h1 : (x == 1) = false := by rw [beq_eq_false_iff_ne]; exact e1
      by_cases e2 : x = 2
      · subst e2
        have hsw := hBr.lt
        have hBn := hBr.alloc (.cells #[.int .i64 5,.int .i64 5] 3)
        have kbn := hBn.cell (i := 0) (v := .slice none 0 0) rfl
        have fbn := hBn.free 0
        go_wp2_with fail
        clear kbn fbn hBn
        have hs5 : (w3.setCell ⟨w.heap.size, 0, none⟩ (.slice (some ⟨w3.heap.size, 0, none⟩) 2 2)).heap.size = w3.heap.size := by simp
        have hO5 := (own_made (TI := 3) (n := 2) (by omega) (Ext.refl (w3.setCell ⟨w.heap.size, 0, none⟩ (.slice (some ⟨w3.heap.size, 0, none⟩) 2 2))) [5,5] rfl).low (w0 := w) (by have := hBr.lt; omega)
        rw [hs5] at hO5
        have hC5 := (hCr.other (b := w.heap.size) (i := 0) (by omega) (by omega) (.slice (some ⟨w3.heap.size, 0, none⟩) 2 2)).alloc (.cells #[.int .i64 5,.int .i64 5] 3)
        have hF5 := (hFr.out.set (Nat.le_refl _) 0 (.slice (some ⟨w3.heap.size, 0, none⟩) 2 2)).alloc (.cells #[.int .i64 5,.int .i64 5] 3)
        have kres := ((hBr.set 0 (.slice (some ⟨w3.heap.size, 0, none⟩) 2 2)).alloc (.cells #[.int .i64 5,.int .i64 5] 3)).cell (i := 0) (v := .slice (some ⟨w3.heap.size, 0, none⟩) 2 2) rfl
        change Own _ _ (World.alloc _ (.cells #[.int .i64 5,.int .i64 5] _)) _ _ at hO5
        generalize (w3.setCell ⟨w.heap.size, 0, none⟩ (.slice (some ⟨w3.heap.size, 0, none⟩) 2 2)).alloc (.cells #[.int .i64 5,.int .i64 5] 3) = w5 at kres hO5 hC5 hF5 ⊢
        refine bodyPost_ret (v := .agg #[.slice (some ⟨w3.heap.size, 0, none⟩) 2 2]) (by simp [results, Try.results142, go_sem, kres]) rfl ⟨_, [5,5], _, rfl, hO5, hC5, hF5⟩
      · have h2 : (x == 2) = false := by rw [beq_eq_false_iff_ne]; exact e2
        have kr := hBr.cell (i := 0) (v := .slice none 0 0) rfl
        have fr := hBr.free 0
        have kg := hBg3.cell (i := 0) (v := .slice ao L.length c) rfl
        have kres := (hBr.set 0 (.slice ao L.length c)).cell (i := 0) (v := .slice ao L.length c) rfl
        have hO5 : Own 3 w (w3.setCell ⟨w.heap.size, 0, none⟩ (.slice ao L.length c)) (.slice ao L.length c) L := (hO3.setCell_below (p := ⟨w.heap.size, 0, none⟩) (by rw [hs0]; exact Nat.lt_succ_self _) _).low (by omega)
        have hC5 := hCr.other (b := w.heap.size) (i := 0) (by omega) (by omega) (.slice ao L.length c)
        have hF5 := hFr.out.set (Nat.le_refl _) 0 (.slice ao L.length c)
        go_wp2_with fail
        generalize w3.setCell ⟨w.heap.size, 0, none⟩ (.slice ao L.length c) = w5 at kres hO5 hC5 hF5 ⊢
        refine bodyPost_ret (v := .agg #[.slice ao L.length c]) (by simp [results, Try.results142, go_sem, kres]) rfl ⟨_, L, _, rfl, hO5, hC5, hF5⟩
/-- an element that is drawn -/
theorem l2Element_any (w0 w wA : World) (p : Nat) (v : Value) (L : List Int) (h : Cur w0 w p) (hO : Own 3 wA w v L) (hpA : p < wA.heap.size) :
    Calls Try.prog 135 #[.pointer (some ⟨p, 0, none⟩), .agg #[v]] w fun e w' => ∃ x, e = .returned (.int .i64 x) ∧ (-9223372036854775808 ≤ x ∧ x ≤ 9223372036854775807) ∧ Cur w0 w' p ∧ Drw p w w' := by
  have hp := h.lt
  have hB0 : Blk (w.alloc (.cells #[v] 26)) w.heap.size 26 #[v] := Blk.new _ _ _
  have hO0 := hO.alloc (.cells #[v] 26)
  go_enter Try.func135, Try.ntmps135
  go_wp2_with fail
  refine (l1Once_any w0 _ p 16 (by omega) (h.alloc _)).mono ?_
  rintro e w2 ⟨b, rfl, hC2, hF2⟩
  have hB2 := hF2.blk hB0 (by omega)
  have hO2 := hF2.own hO0 hpA
  have hF02 := Lib.hid ((((Ext.refl w).alloc (.cells #[v] 26)).drw p).trans hF2)
  have hsz2 := hF2.size
  have hsz1 : (w.alloc (.cells #[v] 26)).heap.size = w.heap.size + 1 := by simp
  clear hO hO0 hB0 hF2
  cases b
  · have kb := hB2.cell (i := 0) (v := v) rfl
    have hob := ordF_bd L
    go_wp2_with fail
    refine (sOrderOf_any _ L _ hO2.ints).mono ?_
    rintro e w3 ⟨rfl, hE3⟩
    obtain ⟨n, hn⟩ : ∃ n, n = ordF L := ⟨_, rfl⟩
    rw [← hn] at hob ⊢
    have hC3 := hC2.ext hE3
    have hF3 := Lib.hid (hF02.out.trans (hE3.drw p))
    clear hn
    by_cases h1n : 1 < n
    · go_wp2_with fail
      refine (l1Below_any w0 _ p n (by omega) hC3).mono ?_
      rintro e w4 ⟨x, rfl, hb, hC4, hF4⟩
      have hx := hb.2 (by omega)
      have hF4' := hF3.out.trans hF4
      go_wp2_with fail
      go_ret
      exact ⟨_, rfl, ⟨by omega, by omega⟩, hC4, hF4'⟩
    · go_wp2_with fail
      refine (l1Below_any w0 _ p 1 (by omega) hC3).mono ?_
      rintro e w4 ⟨x, rfl, hb, hC4, hF4⟩
      have hx := hb.2 (by omega)
      have hF4' := hF3.out.trans hF4
      go_wp2_with fail
      go_ret
      exact ⟨_, rfl, ⟨by omega, by omega⟩, hC4, hF4'⟩
  · have hOl := own_made (TI := 3) (n := 3) (by omega) (Ext.refl w2) [-1, 24, 9223372036854775807] rfl
    go_wp2_with fail
    refine (l1PickInt_any w0 _ w2 p _ _ (hC2.alloc _) hOl (by omega) (by decide) (by decide)).mono ?_
    rintro e w4 ⟨k, hk, rfl, hC4, hF4⟩
    have hF4' := (hF02.out.alloc _).trans hF4
    have hy : -9223372036854775808 ≤ nth [-1, 24, 9223372036854775807] k ∧ nth [-1, 24, 9223372036854775807] k ≤ 9223372036854775807 := by
      have : k = 0 ∨ k = 1 ∨ k = 2 := by simp at hk; omega
      rcases this with rfl | rfl | rfl <;> decide
    obtain ⟨y, hyd⟩ : ∃ y, y = nth [-1, 24, 9223372036854775807] k := ⟨_, rfl⟩
    rw [← hyd] at hy ⊢
    clear hyd hOl
    go_wp2_with fail
    go_ret
    exact ⟨_, rfl, hy, hC4, hF4'⟩
/-- a set that is drawn -/
theorem l3Set_any (w0 w wA : World) (p : Nat) (v : Value) (L : List Int) (h : Cur w0 w p) (hO : Own 3 wA w v L) (hpA : p < wA.heap.size) :
    Calls Try.prog 143 #[.pointer (some ⟨p, 0, none⟩), .agg #[v]] w fun e w' => ∃ x, e = .returned (.int .i64 x) ∧ (-9223372036854775808 ≤ x ∧ x ≤ 9223372036854775807) ∧ Cur w0 w' p ∧ Drw p w w' := by
  have hp := h.lt
  have hB0 : Blk (w.alloc (.cells #[v] 26)) w.heap.size 26 #[v] := Blk.new _ _ _
  have kb := hB0.cell (i := 0) (v := v) rfl
  have hO0 := hO.alloc (.cells #[v] 26)
  have hob := ordF_bd L
  go_enter Try.func143, Try.ntmps143
  go_wp2_with fail
  refine (sOrderOf_any _ L _ hO0.ints).mono ?_
  rintro e w1 ⟨rfl, hE1⟩
  obtain ⟨n, hn⟩ : ∃ n, n = ordF L := ⟨_, rfl⟩
  rw [← hn] at hob ⊢
  have hC1 := (h.alloc (.cells #[v] 26)).ext hE1
  have hF1 := Lib.hid (((((Ext.refl w).alloc (.cells #[v] 26))).trans hE1).drw p)
  have hsz2 := hE1.size
  have hsz1 : (w.alloc (.cells #[v] 26)).heap.size = w.heap.size + 1 := by simp
  clear hO hO0 hB0 kb hE1 hn
  obtain ⟨m, rfl⟩ := Int.eq_ofNat_of_zero_le hob.1
  have hm24 : m ≤ 24 := by omega
  have hP1 := pw_pos m
  have hP2 := pw_le hm24
  have hq := ishl_one (n := m) (by omega)
  by_cases h1n : 1 < (m : Int)
  · go_wp2_with fail
    refine (l1Below_any w0 _ p 6 (by omega) hC1).mono ?_
    rintro e w2 ⟨x, rfl, hb, hC2, hF2⟩
    obtain ⟨hx0, hx1⟩ := hb.2 (by omega)
    have hF2' := Lib.hid (hF1.out.trans hF2)
    have hsz3 := hF2.size
    clear hF1 hC1 hF2 hb
    go_wp2_with fail
    go_loopw [6, 7] (fun sa sk wr => ∃ (k : Int) (a : Nat), a < 2 ^ 24 ∧ 0 ≤ k ∧ k ≤ 6 ∧ sk = .int .i64 k ∧ sa = .int .i64 a ∧ Cur w0 wr p ∧ Hid (Drw p w wr) ∧ w2.heap.size ≤ wr.heap.size) (fun _ sk _ => (intOf sk).toNat)
    case atStart => exact ⟨x, 0, by decide, hx0, by omega, rfl, rfl, hC2, hF2', Nat.le_refl _⟩
    case round =>
      rename World => wr
      clear hC2 hF2' hx0 hx1
      obtain ⟨k, a, ha, hk0, hk6, rfl, rfl, hC, hF, hsz4⟩ := hrel
      by_cases hlt : 0 < k
      · go_wp2_with fail
        refine (l1Below_any w0 _ p (m:Int) (by omega) hC).mono ?_
        rintro e w3 ⟨y, rfl, hb, hC3, hF3⟩
        obtain ⟨hy0, hy1⟩ := hb.2 (by omega)
        obtain ⟨z, rfl⟩ := Int.eq_ofNat_of_zero_le hy0
        have hz : z < 24 := by omega
        have q1 := ishl_one (n := z) (by omega)
        have q2 := ior_pw ha hz
        have ha2 : a ||| 2 ^ z < 2 ^ 24 := Nat.or_lt_two_pow ha (Nat.pow_lt_pow_right (by omega) hz)
        have hF3' := Lib.hid (hF.out.trans hF3)
        have hsz5 := hF3.size
        clear hb hF3
        go_wp2_with fail
        go_roundw
        case rel => exact ⟨k - 1, a ||| 2 ^ z, ha2, by omega, by omega, by go_num, rfl, hC3, hF3', by omega⟩
        case measure => (simp [intOf]; omega)
      · go_wp2_with fail
        refine (l1Below_any w0 _ p 20 (by omega) hC).mono ?_
        rintro e w3 ⟨y, rfl, hb, hC3, hF3⟩
        obtain ⟨hy0, hy1⟩ := hb.2 (by omega)
        have hF3' := Lib.hid (hF.out.trans hF3)
        have hsz5 := hF3.size
        clear hb hF3
        by_cases e0 : y = 0
        · subst e0
          skip
          go_wp2_with fail
          go_ret
          exact ⟨_, rfl, ⟨by omega, by omega⟩, hC3, hF3'.out⟩
        · have h0 : (y == 0) = false := by rw [beq_eq_false_iff_ne]; exact e0
          by_cases e1 : y = 1
          · subst e1
            have hOl := own_made (TI := 3) (n := 3) (by omega) (Ext.refl w3) [-1, 16777216, 9223372036854775807] rfl
            go_wp2_with fail
            refine (l1PickInt_any w0 _ w3 p _ _ (hC3.alloc _) hOl (by omega) (by decide) (by decide)).mono ?_
            rintro e w4 ⟨j, hj, rfl, hC4, hF4⟩
            have hF4' := (hF3'.out.alloc _).trans hF4
            have hy : -9223372036854775808 ≤ nth [-1, 16777216, 9223372036854775807] j ∧ nth [-1, 16777216, 9223372036854775807] j ≤ 9223372036854775807 := by
              have : j = 0 ∨ j = 1 ∨ j = 2 := by simp at hj; omega
              rcases this with rfl | rfl | rfl <;> decide
            obtain ⟨y, hyd⟩ : ∃ y, y = nth [-1, 16777216, 9223372036854775807] j := ⟨_, rfl⟩
            rw [← hyd] at hy ⊢
            clear hyd hOl
            go_wp2_with fail
            go_ret
            exact ⟨_, rfl, hy, hC4, hF4'⟩
          · have h1 : (y == 1) = false := by rw [beq_eq_false_iff_ne]; exact e1
            go_wp2_with fail
            go_ret
            exact ⟨_, rfl, ⟨by omega, by omega⟩, hC3, hF3'.out⟩
  · go_wp2_with fail
    refine (l1Below_any w0 _ p 6 (by omega) hC1).mono ?_
    rintro e w2 ⟨x, rfl, hb, hC2, hF2⟩
    obtain ⟨hx0, hx1⟩ := hb.2 (by omega)
    have hF2' := Lib.hid (hF1.out.trans hF2)
    have hsz3 := hF2.size
    clear hF1 hC1 hF2 hb
    go_wp2_with fail
    go_loopw [6, 7] (fun sa sk wr => ∃ (k : Int) (a : Nat), a < 2 ^ 24 ∧ 0 ≤ k ∧ k ≤ 6 ∧ sk = .int .i64 k ∧ sa = .int .i64 a ∧ Cur w0 wr p ∧ Hid (Drw p w wr) ∧ w2.heap.size ≤ wr.heap.size) (fun _ sk _ => (intOf sk).toNat)
    case atStart => exact ⟨x, 0, by decide, hx0, by omega, rfl, rfl, hC2, hF2', Nat.le_refl _⟩
    case round =>
      rename World => wr
      clear hC2 hF2' hx0 hx1
      obtain ⟨k, a, ha, hk0, hk6, rfl, rfl, hC, hF, hsz4⟩ := hrel
      by_cases hlt : 0 < k
      · go_wp2_with fail
        refine (l1Below_any w0 _ p 1 (by omega) hC).mono ?_
        rintro e w3 ⟨y, rfl, hb, hC3, hF3⟩
        obtain ⟨hy0, hy1⟩ := hb.2 (by omega)
        obtain ⟨z, rfl⟩ := Int.eq_ofNat_of_zero_le hy0
        have hz : z < 24 := by omega
        have q1 := ishl_one (n := z) (by omega)
        have q2 := ior_pw ha hz
        have ha2 : a ||| 2 ^ z < 2 ^ 24 := Nat.or_lt_two_pow ha (Nat.pow_lt_pow_right (by omega) hz)
        have hF3' := Lib.hid (hF.out.trans hF3)
        have hsz5 := hF3.size
        clear hb hF3
        go_wp2_with fail
        go_roundw
        case rel => exact ⟨k - 1, a ||| 2 ^ z, ha2, by omega, by omega, by go_num, rfl, hC3, hF3', by omega⟩
        case measure => (simp [intOf]; omega)
      · go_wp2_with fail
        refine (l1Below_any w0 _ p 20 (by omega) hC).mono ?_
        rintro e w3 ⟨y, rfl, hb, hC3, hF3⟩
        obtain ⟨hy0, hy1⟩ := hb.2 (by omega)
        have hF3' := Lib.hid (hF.out.trans hF3)
        have hsz5 := hF3.size
        clear hb hF3
        by_cases e0 : y = 0
        · subst e0
          have hq1 : ishl 1 1 = 2 := by decide
          go_wp2_with fail
          go_ret
          exact ⟨_, rfl, ⟨by omega, by omega⟩, hC3, hF3'.out⟩
        · have h0 : (y == 0) = false := by rw [beq_eq_false_iff_ne]; exact e0
          by_cases e1 : y = 1
          · subst e1
            have hOl := own_made (TI := 3) (n := 3) (by omega) (Ext.refl w3) [-1, 16777216, 9223372036854775807] rfl
            go_wp2_with fail
            refine (l1PickInt_any w0 _ w3 p _ _ (hC3.alloc _) hOl (by omega) (by decide) (by decide)).mono ?_
            rintro e w4 ⟨j, hj, rfl, hC4, hF4⟩
            have hF4' := (hF3'.out.alloc _).trans hF4
            have hy : -9223372036854775808 ≤ nth [-1, 16777216, 9223372036854775807] j ∧ nth [-1, 16777216, 9223372036854775807] j ≤ 9223372036854775807 := by
              have : j = 0 ∨ j = 1 ∨ j = 2 := by simp at hj; omega
              rcases this with rfl | rfl | rfl <;> decide
            obtain ⟨y, hyd⟩ : ∃ y, y = nth [-1, 16777216, 9223372036854775807] j := ⟨_, rfl⟩
            rw [← hyd] at hy ⊢
            clear hyd hOl
            go_wp2_with fail
            go_ret
            exact ⟨_, rfl, hy, hC4, hF4'⟩
          · have h1 : (y == 1) = false := by rw [beq_eq_false_iff_ne]; exact e1
            go_wp2_with fail
            go_ret
            exact ⟨_, rfl, ⟨by omega, by omega⟩, hC3, hF3'.out⟩
end Go.Zz

/- Extremal sums: the sets of a size, the greatest and the least double. -/
namespace Go.Zz
open Go.RowKit Go.Proofs
set_option maxHeartbeats 400000

/-- the sets with 0 of n elements among the first j odd numbers -/
def oddTo (n j : Nat) : List Nat := ((List.range j).map (fun i => 2 * i + 1)).filter (fun a => decide (cnt a = n))
def halfN (l : List Int) : Nat := pw (ord l - 1)
theorem oddTo_zero (n : Nat) : oddTo n 0 = [] := rfl
theorem oddTo_yes {n j : Nat} (h : cnt (2 * j + 1) = n) : oddTo n (j + 1) = oddTo n j ++ [2 * j + 1] := by
  unfold oddTo; rw [List.range_succ, List.map_append, List.filter_append]; simp [h]
theorem oddTo_no {n j : Nat} (h : ¬ cnt (2 * j + 1) = n) : oddTo n (j + 1) = oddTo n j := by
  unfold oddTo; rw [List.range_succ, List.map_append, List.filter_append]; simp [h]
theorem oddTo_len (n j : Nat) : (oddTo n j).length ≤ j := by
  unfold oddTo; refine Nat.le_trans (List.length_filter_le _ _) (by simp)
theorem oddTo_mem {n j a : Nat} (h : a ∈ oddTo n j) : a < 2 * j ∧ 0 < a := by
  unfold oddTo at h
  obtain ⟨h1, _⟩ := List.mem_filter.1 h
  obtain ⟨i, hi, rfl⟩ := List.mem_map.1 h1
  have := List.mem_range.1 hi
  omega
theorem halfN_two {l : List Int} (h : isGrp l = true) : 2 * halfN l = if ord l = 1 then 2 else pw (ord l) := by
  have h1 := (ord_bd h).1
  unfold halfN pw
  by_cases e : ord l = 1
  · rw [if_pos e, e]
  · rw [if_neg e]
    obtain ⟨m, hm⟩ : ∃ m, ord l = m + 1 := ⟨ord l - 1, by omega⟩
    rw [hm, Nat.add_sub_cancel, Nat.pow_succ]; omega
/-- the odd numbers below 2 ^ order -/
theorem halfN_lt {l : List Int} (h : isGrp l = true) (j : Nat) : 2 * j + 1 < pw (ord l) ↔ j < halfN l := by
  have h1 := (ord_bd h).1
  obtain ⟨m, hm⟩ : ∃ m, ord l = m + 1 := ⟨ord l - 1, by omega⟩
  unfold halfN pw
  rw [hm, Nat.add_sub_cancel, Nat.pow_succ]; omega
theorem halfN_bd {l : List Int} (h : isGrp l = true) : halfN l ≤ 8388608 := by
  unfold halfN pw
  exact Nat.le_trans (Nat.pow_le_pow_right (n := 2) (by omega) (show ord l - 1 ≤ 23 by have := (ord_bd h).2; omega)) (by decide)
theorem oddTo_bd {l : List Int} (h : isGrp l = true) {n a : Nat} (ha : a ∈ oddTo n (halfN l)) : a < 2 ^ 24 := by
  have := (oddTo_mem ha).1; have := halfN_bd h; omega


/-- arguments that the extremal doubles take -/
def dblB (l : List Int) (n : Int) : Bool := isGrp l && decide (ord l ≤ 12) && inB n 1 (ord l)
theorem dblB_grp {l : List Int} {n : Int} (h : isGrp l = false) : dblB l n = false := by unfold dblB; rw [h]; rfl
theorem dblB_ord {l : List Int} {n : Int} (h : ¬ ord l ≤ 12) : dblB l n = false := by unfold dblB; simp [h]
theorem dblB_n {l : List Int} {n : Int} (h : inB n 1 (ord l) = false) : dblB l n = false := by unfold dblB; rw [h]; simp
theorem dblB_yes {l : List Int} {n : Int} (h : isGrp l = true) (h2 : ord l ≤ 12) (h3 : inB n 1 (ord l) = true) : dblB l n = true := by unfold dblB; rw [h, h3]; simp [h2]
/-- the size of a + a -/
def dblC (l : List Int) (a : Nat) : Nat := cnt (sumF l a a)
def mdF (l : List Int) (L : List Nat) : Int := L.foldl (fun b a => if b < (dblC l a : Int) then (dblC l a : Int) else b) 0
theorem mdF_nil (l : List Int) : mdF l [] = 0 := rfl
theorem mdF_snoc (l : List Int) (L : List Nat) (a : Nat) : mdF l (L ++ [a]) = if mdF l L < (dblC l a : Int) then (dblC l a : Int) else mdF l L := by unfold mdF; rw [List.foldl_append]; rfl
def mostF (l : List Int) (n : Int) : Int := if dblB l n then mdF l (oddTo n.toNat (halfN l)) else -1
theorem mostF_no {l : List Int} {n : Int} (h : dblB l n = false) : mostF l n = -1 := by unfold mostF; rw [h]; rfl
theorem mostF_yes {l : List Int} {n : Nat} (h : dblB l n = true) : mostF l n = mdF l (oddTo n (halfN l)) := by unfold mostF; rw [if_pos h]; rfl
theorem in_nat {n : Int} {o : Nat} (h : inB n 1 o = true) : ∃ m : Nat, n = m ∧ 1 ≤ m ∧ m ≤ o := by
  obtain ⟨h1, h2⟩ := inB_t.1 h
  exact ⟨n.toNat, by omega, by omega, by omega⟩


/-- the first least double, with the size that it has, from a size on -/
def ldF (l : List Int) (M : Nat) (L : List Nat) : Nat × Nat := L.foldl (fun p a => if dblC l a < p.2 then (a, dblC l a) else p) (0, M)
theorem ldF_nil (l : List Int) (M : Nat) : ldF l M [] = (0, M) := rfl
theorem ldF_yes {l : List Int} {M : Nat} {L : List Nat} {a : Nat} (h : dblC l a < (ldF l M L).2) : ldF l M (L ++ [a]) = (a, dblC l a) := by
  unfold ldF at h ⊢; rw [List.foldl_append]; simp only [List.foldl_cons, List.foldl_nil]; rw [if_pos h]
theorem ldF_no {l : List Int} {M : Nat} {L : List Nat} {a : Nat} (h : ¬ dblC l a < (ldF l M L).2) : ldF l M (L ++ [a]) = ldF l M L := by
  unfold ldF at h ⊢; rw [List.foldl_append]; simp only [List.foldl_cons, List.foldl_nil]; rw [if_neg h]
theorem ldF_any (l : List Int) {M N : Nat} (hM : ∀ a, dblC l a < M) (hN : ∀ a, dblC l a < N) : ∀ L, (ldF l M L).1 = (ldF l N L).1
  | [] => rfl
  | a :: L => by unfold ldF; simp only [List.foldl_cons, hM a, hN a, if_true]
theorem ldF_le (l : List Int) (M : Nat) (L : List Nat) : (ldF l M L).2 ≤ M := by
  unfold ldF
  suffices h : ∀ (L : List Nat) (p : Nat × Nat), (L.foldl (fun p a => if dblC l a < p.2 then (a, dblC l a) else p) p).2 ≤ p.2 from h L (0, M)
  intro L
  induction L with
  | nil => intro p; exact Nat.le_refl _
  | cons a L ih =>
    intro p
    rw [List.foldl_cons]
    refine Nat.le_trans (ih _) ?_
    by_cases h : dblC l a < p.2
    · rw [if_pos h]; exact Nat.le_of_lt h
    · rw [if_neg h]; exact Nat.le_refl _
theorem dblC_le {l : List Int} (h : isGrp l = true) (a : Nat) : dblC l a ≤ ord l := by
  unfold dblC cnt elems
  have hb := sumF_lt (isGrp_ords h) a a
  have e : (List.range 24).filter (fun i => (sumF l a a).testBit i) = (List.range (ord l)).filter (fun i => (sumF l a a).testBit i) := (elemsTo_all (ord_bd h).2 hb).symm
  rw [e]; exact Nat.le_trans (List.length_filter_le _ _) (by simp)
def leastF (l : List Int) (n : Int) : Int := if dblB l n then ((ldF l 100 (oddTo n.toNat (halfN l))).1 : Int) else 0
theorem leastF_no {l : List Int} {n : Int} (h : dblB l n = false) : leastF l n = 0 := by unfold leastF; rw [h]; rfl
theorem leastF_yes {l : List Int} {n : Nat} (h : dblB l n = true) : leastF l n = ((ldF l 100 (oddTo n (halfN l))).1 : Int) := by unfold leastF; rw [if_pos h]; rfl
end Go.Zz

/- Direct sums; fewest and most translates. -/
namespace Go.Zz
open Go.RowKit Go.Proofs
set_option maxHeartbeats 400000

/-- whether all sums of two sets are different -/
def directF (l : List Int) (a x : Int) : Bool := isSetB l a && isSetB l x && decide (cnt (sumF l a.toNat x.toNat) = cnt a.toNat * cnt x.toNat)
theorem directF_no {l : List Int} {a x : Int} (h : (isSetB l a && isSetB l x) = false) : directF l a x = false := by unfold directF; rw [h]; rfl
theorem directF_yes {l : List Int} {a x : Nat} (h : (isSetB l a && isSetB l x) = true) : directF l a x = ((cnt (sumF l a x) : Int) == (cnt a : Int) * (cnt x : Int)) := by
  unfold directF; rw [h, Bool.eq_iff_iff]; simp; norm_cast
theorem prod_bd (a x : Nat) : 0 ≤ (cnt a : Int) * (cnt x : Int) ∧ (cnt a : Int) * (cnt x : Int) ≤ 576 := by
  have := Nat.mul_le_mul (cnt_le a) (cnt_le x)
  have e : ((cnt a * cnt x : Nat) : Int) = (cnt a : Int) * (cnt x : Int) := Int.natCast_mul _ _
  omega
theorem prod_wrap (a x : Nat) : IntKind.i64.wrap ((cnt a : Int) * (cnt x : Int)) = (cnt a : Int) * (cnt x : Int) := by
  have := prod_bd a x; exact IntWalk.i64_in _ (by omega)
--%call IsDirect 39 ext IsDirect_any _ _ _ _ _ ({0})
theorem IsDirect_any (v : Value) (l : List Int) (a x : Int) (w : World) (h : Ints w v l) :
    Calls Try.prog 39 #[.agg #[v], .int .i64 a, .int .i64 x] w fun e w' => e = .returned (.bool (directF l a x)) ∧ Ext w w' := by
  obtain ⟨wb, hwb⟩ : ∃ wb, wb = w.alloc (.cells #[v] 26) := ⟨_, rfl⟩
  have hE0 := (Ext.refl w).alloc (.cells #[v] 26)
  have hb := box_cell w v 26
  rw [← hwb] at hE0 hb
  have hg : ∀ W, Ext wb W → Ints W v l := fun W hW => h.ext (hE0.trans hW)
  have hE := Ext.refl wb
  have Hsz : Hid (w.heap.size + 1 = wb.heap.size) := Lib.hid (by rw [hwb]; simp [go_sem])
  have Hwb := Lib.hid hwb
  clear hwb h
  have har := areF_two l a x
  have hbx := hb wb hE
  cases hs : (isSetB l a && isSetB l x)
  · have Hs := Lib.hid (directF_no hs)
    rw [hs] at har
    clear hs
    go_enter Try.func39, Try.ntmps39
    go_wp2_with fail
    rw [← Hwb.out]; rw [Hsz.out]
    go_wp2_with (first | (go_at_call 88; refine Calls.mono (areSets_val _ _ _ _ _ (hg _ (by repeat (first | assumption | exact Ext.refl _ | (apply And.left; assumption) | apply Ext.drew | apply Ext.alloc))) (ints_two _ _ _ _) har) ?_; rintro e w' ⟨rfl, hE'⟩; replace hE := hE.trans (Ext.trans (by repeat (first | assumption | exact Ext.refl _ | (apply And.left; assumption) | apply Ext.drew | apply Ext.alloc)) hE'); clear hE'))
    go_ret
    exact ⟨ret_bool Hs.out.symm, hE0.trans hE⟩
  · obtain ⟨ha, hx⟩ := Bool.and_eq_true_iff.1 hs
    obtain ⟨a, rfl, -, ha, hgr⟩ := isSetB_nat ha
    obtain ⟨x, rfl, -, hx, -⟩ := isSetB_nat hx
    have Hs := Lib.hid (directF_yes hs)
    rw [hs] at har
    have Hgr := Lib.hid hgr
    have hsum := sumF_bd hgr a x
    have hpw := prod_wrap a x
    have hpb := prod_bd a x
    clear hs hgr
    go_enter Try.func39, Try.ntmps39
    go_wp2_with fail
    rw [← Hwb.out]; rw [Hsz.out]
    go_wp2_with (first | (go_at_call 88; refine Calls.mono (areSets_val _ _ _ _ _ (hg _ (by repeat (first | assumption | exact Ext.refl _ | (apply And.left; assumption) | apply Ext.drew | apply Ext.alloc))) (ints_two _ _ _ _) har) ?_; rintro e w' ⟨rfl, hE'⟩; replace hE := hE.trans (Ext.trans (by repeat (first | assumption | exact Ext.refl _ | (apply And.left; assumption) | apply Ext.drew | apply Ext.alloc)) hE'); clear hE') | (go_at_call 72; refine (sum_any _ _ _ _ _ (hg _ hE) (Hgr) (ha) (hx)).mono ?_; rintro e w' ⟨rfl, hE'⟩; replace hE := hE.trans hE'; clear hE') | (go_at_call 83; (first | (with_reducible refine (bits_any _ hsum _).mono ?_) | (with_reducible refine (bits_any _ ha _).mono ?_) | (with_reducible refine (bits_any _ hx _).mono ?_)); rintro e w' ⟨rfl, rfl⟩))
    go_ret
    exact ⟨ret_bool (by rw [Hs.out]), hE0.trans hE⟩
--%call sIsDirect 86 ext sIsDirect_any _ _ _ _ _ ({0})
theorem sIsDirect_any (v : Value) (l : List Int) (a x : Int) (w : World) (h : Ints w v l) :
    Calls Try.prog 86 #[.agg #[v], .int .i64 a, .int .i64 x] w fun e w' => e = .returned (.bool (directF l a x)) ∧ Ext w w' := by
  obtain ⟨wb, hwb⟩ : ∃ wb, wb = w.alloc (.cells #[v] 26) := ⟨_, rfl⟩
  have hE0 := (Ext.refl w).alloc (.cells #[v] 26)
  have hb := box_cell w v 26
  rw [← hwb] at hE0 hb
  have hg : ∀ W, Ext wb W → Ints W v l := fun W hW => h.ext (hE0.trans hW)
  have hE := Ext.refl wb
  have Hsz : Hid (w.heap.size + 1 = wb.heap.size) := Lib.hid (by rw [hwb]; simp [go_sem])
  have Hwb := Lib.hid hwb
  clear hwb h
  have hbx := hb wb hE
  cases hs1 : isSetB l a
  · have Hs := Lib.hid (directF_no (l := l) (a := a) (x := x) (by rw [hs1]; rfl))
    go_enter Try.func86, Try.ntmps86
    go_wp2_with fail
    rw [← Hwb.out]
    go_wp2_with (first | (go_at_call 73; refine (sIsSet_val _ _ _ _ (hg _ hE) (hs1)).mono ?_; rintro e w' ⟨rfl, hE'⟩; replace hE := hE.trans hE'; clear hE'))
    go_ret
    exact ⟨ret_bool Hs.out.symm, hE0.trans hE⟩
  · cases hs2 : isSetB l x
    · have Hs := Lib.hid (directF_no (l := l) (a := a) (x := x) (by rw [hs2]; simp))
      go_enter Try.func86, Try.ntmps86
      go_wp2_with fail
      rw [← Hwb.out]
      go_wp2_with (first | (go_at_call 73; (first | (with_reducible refine Calls.mono (sIsSet_val _ _ a _ (hg _ hE) hs1) ?_) | (with_reducible refine Calls.mono (sIsSet_val _ _ x _ (hg _ hE) hs2) ?_)); rintro e w' ⟨rfl, hE'⟩; replace hE := hE.trans hE'; clear hE'))
      go_ret
      exact ⟨ret_bool Hs.out.symm, hE0.trans hE⟩
    · obtain ⟨a, rfl, -, ha, hgr⟩ := isSetB_nat hs1
      obtain ⟨x, rfl, -, hx, -⟩ := isSetB_nat hs2
      have Hs := Lib.hid (directF_yes (l := l) (a := a) (x := x) (by rw [hs1, hs2]; rfl))
      have Hgr := Lib.hid hgr
      have hsum := sumF_bd hgr a x
      have hpw := prod_wrap a x
      have hpb := prod_bd a x
      clear hgr
      go_enter Try.func86, Try.ntmps86
      go_wp2_with fail
      rw [← Hwb.out]
      go_wp2_with (first | (go_at_call 73; (first | (with_reducible refine Calls.mono (sIsSet_val _ _ (a : Int) _ (hg _ hE) hs1) ?_) | (with_reducible refine Calls.mono (sIsSet_val _ _ (x : Int) _ (hg _ hE) hs2) ?_)); rintro e w' ⟨rfl, hE'⟩; replace hE := hE.trans hE'; clear hE') | (go_at_call 74; refine (l4Sum_any _ _ _ _ _ (hg _ hE) (Hgr) (ha) (hx)).mono ?_; rintro e w' ⟨rfl, hE'⟩; replace hE := hE.trans hE'; clear hE') | (go_at_call 85; (first | (with_reducible refine (l3Bits_any _ hsum _).mono ?_) | (with_reducible refine (l3Bits_any _ ha _).mono ?_) | (with_reducible refine (l3Bits_any _ hx _).mono ?_)); rintro e w' ⟨rfl, rfl⟩))
      go_ret
      exact ⟨ret_bool (by rw [Hs.out]), hE0.trans hE⟩
end Go.Zz
