/- The drawing of arguments: numbers below a bound, one of a list. -/
import Derived.Test.YtgjomoedgmofbaaDr
import Derived.Test.YtgjomoedgmofbaaOv
namespace Go.Zz
open Go.RowKit Go.Proofs
set_option maxHeartbeats 2000000
set_option maxRecDepth 8000

/-- a number that a draw may give where it is asked for one below n -/
def Bel (n x : Int) : Prop := (n ≤ 0 → x = 0) ∧ (0 < n → 0 ≤ x ∧ x < n)
theorem l1Below_any (w0 w : World) (p : Nat) (n : Int) (hn : n ≤ 256) (h : Cur w0 w p) :
    Calls Try.prog 122 #[.pointer (some ⟨p, 0, none⟩), .int .i64 n] w fun e w' => ∃ x, e = .returned (.int .i64 x) ∧ Bel n x ∧ Cur w0 w' p ∧ Drw p w w' := by
  by_cases h0 : n ≤ 0
  · have Hb : Hid (Bel n 0) := Lib.hid ⟨fun _ => rfl, fun e => by omega⟩
    go_enter Try.func122, Try.ntmps122
    go_wp2_with fail
    go_ret
    exact ⟨0, rfl, Hb.out, h, Drw.refl p w⟩
  · have hp : 0 < n := by omega
    go_enter Try.func122, Try.ntmps122
    go_wp2_with fail
    refine (l1Byte_any w0 w p h).mono ?_
    rintro e w1 ⟨x, rfl, hx0, hx1, hC, hF⟩
    have hm1 : 0 ≤ x % n := Int.emod_nonneg _ (by omega)
    have hm2 : x % n < n := Int.emod_lt_of_pos _ hp
    have Hb : Hid (Bel n (x % n)) := Lib.hid ⟨fun e => by omega, fun _ => ⟨hm1, hm2⟩⟩
    have hn0 : ¬ n = 0 := by omega
    have htm : x.tmod n = x % n := Int.tmod_eq_emod_of_nonneg hx0
    go_wp2_with fail
    go_ret
    exact ⟨_, rfl, Hb.out, hC, hF⟩
theorem l1Once_any (w0 w : World) (p : Nat) (n : Int) (hn : n ≤ 256) (h : Cur w0 w p) :
    Calls Try.prog 152 #[.pointer (some ⟨p, 0, none⟩), .int .i64 n] w fun e w' => ∃ b, e = .returned (.bool b) ∧ Cur w0 w' p ∧ Drw p w w' := by
  go_enter Try.func152, Try.ntmps152
  go_wp2_with fail
  refine (l1Below_any w0 w p n hn h).mono ?_
  rintro e w1 ⟨x, rfl, -, hC, hF⟩
  go_wp2_with fail
  go_ret
  exact ⟨_, rfl, hC, hF⟩
theorem l1PickInt_any (w0 w wA : World) (p : Nat) (u : Value) (L : List Int) (h : Cur w0 w p) (hO : Own 3 wA w u L) (hp : p < wA.heap.size) (h1 : 1 ≤ L.length) (h2 : L.length ≤ 256) :
    Calls Try.prog 121 #[.pointer (some ⟨p, 0, none⟩), u] w fun e w' => ∃ k, k < L.length ∧ e = .returned (.int .i64 (nth L k)) ∧ Cur w0 w' p ∧ Drw p w w' := by
  obtain ⟨ao, c, rfl, -⟩ := hO.shape
  go_enter Try.func121, Try.ntmps121
  go_wp2_with fail
  refine (l1Below_any w0 w p L.length (by omega) h).mono ?_
  rintro e w1 ⟨x, rfl, hb, hC, hF⟩
  obtain ⟨hx0, hx1⟩ := hb.2 (by omega)
  obtain ⟨k, rfl⟩ := Int.eq_ofNat_of_zero_le hx0
  have hk : k < L.length := by omega
  obtain ⟨ao', c', adr, hv, -, hadr, hcell⟩ := (hF.own hO hp).ints.op
  simp only [Value.slice.injEq] at hv
  obtain ⟨rfl, -, rfl⟩ := hv
  have hix := ints_index (c := c) elI szI hadr k
  have hck := hcell k w1 hk (Ext.refl _)
  clear hadr hcell
  go_wp2_with fail
  go_ret
  exact ⟨k, hk, rfl, hC, hF⟩
/-- rows of a list of lists, allocated one behind the other -/
def litW (T : TypeId) (w : World) (Ls : List (List Int)) : World := Ls.foldl (fun w L => w.alloc (.cells (L.map (Value.int .i64)).toArray T)) w
theorem litW_cons (T : TypeId) (w : World) (L : List Int) (Ls : List (List Int)) : litW T w (L :: Ls) = litW T (w.alloc (.cells (L.map (Value.int .i64)).toArray T)) Ls := rfl
theorem litW_ext (T : TypeId) : ∀ (Ls : List (List Int)) (w : World), Ext w (litW T w Ls)
  | [], w => Ext.refl w
  | L :: Ls, w => Ext.trans ((Ext.refl w).alloc _) (litW_ext T Ls _)
theorem litW_size (T : TypeId) : ∀ (Ls : List (List Int)) (w : World), (litW T w Ls).heap.size = w.heap.size + Ls.length
  | [], w => rfl
  | L :: Ls, w => by rw [litW_cons, litW_size T Ls]; simp; omega
theorem litW_own (T : TypeId) : ∀ (Ls : List (List Int)) (w : World), (∀ L ∈ Ls, L.length ≤ 1000) → ∀ k L, Ls[k]? = some L → Own T w (litW T w Ls) (.slice (some ⟨w.heap.size + k, 0, none⟩) L.length L.length) L
  | [], _, _, k, L, h => by simp at h
  | M :: Ls, w, hb, k, L, h => by
    rw [litW_cons]
    cases k with
    | zero =>
      simp at h
      subst h
      exact (own_made (TI := T) (by have := hb M (by simp); omega) (Ext.refl w) M rfl).ext (litW_ext T Ls _)
    | succ k =>
      have := litW_own T Ls (w.alloc (.cells (M.map (Value.int .i64)).toArray T)) (fun N hN => hb N (by simp [hN])) k L (by simpa using h)
      have e : (w.alloc (.cells (M.map (Value.int .i64)).toArray T)).heap.size + k = w.heap.size + (k + 1) := by simp; omega
      rw [e] at this
      exact this.mono ((Ext.refl w).alloc _)
def gLits : List (List Int) := [[], [2], [3], [4], [5], [6], [7], [8], [9], [10], [11], [12], [2, 2], [2, 4], [3, 3], [2, 6], [2, 2, 2], [13], [16], [4, 4], [2, 2, 3], [2, 3], [24]]
def litV (n : Nat) : List (List Int) → List Value
  | [] => []
  | L :: Ls => .slice (some ⟨n, 0, none⟩) L.length L.length :: litV (n + 1) Ls
theorem litV_get : ∀ (Ls : List (List Int)) (n k : Nat) (L : List Int), Ls[k]? = some L → (litV n Ls)[k]? = some (.slice (some ⟨n + k, 0, none⟩) L.length L.length)
  | [], _, k, L, h => by simp at h
  | M :: Ls, n, k, L, h => by
    cases k with
    | zero => simp at h; subst h; rfl
    | succ k =>
      have := litV_get Ls (n + 1) k L (by simpa using h)
      rw [show n + 1 + k = n + (k + 1) by omega] at this
      simpa [litV] using this
theorem l2Draw_any (w0 w : World) (p : Nat) (m : Int) (h : Cur w0 w p) :
    Calls Try.prog 213 #[.pointer (some ⟨p, 0, none⟩), .int .i64 m] w fun e w' => ∃ ao L c, e = .returned (.agg #[.slice ao (List.length L) c]) ∧ Own 3 w w' (.slice ao (List.length L) c) L ∧ Cur w0 w' p ∧ Drw p w w' := by
  go_enter Try.func213, Try.ntmps213
  go_wp2_with fail
  change Calls _ _ _ ((litW 3 (w.alloc (.cells #[.slice none 0 0] 26)) gLits).alloc (.cells (litV (w.heap.size + 1) gLits).toArray 24)) _
  have hB0 : Blk (w.alloc (.cells #[.slice none 0 0] 26)) w.heap.size 26 #[.slice none 0 0] := Blk.new _ _ _
  have hE0 : Ext w (w.alloc (.cells #[.slice none 0 0] 26)) := (Ext.refl w).alloc _
  have hs0 : (w.alloc (.cells #[.slice none 0 0] 26)).heap.size = w.heap.size + 1 := by simp
  have hOl := fun k L (hk : gLits[k]? = some L) => litW_own 3 gLits (w.alloc (.cells #[.slice none 0 0] 26)) (by decide) k L hk
  have hE1 := litW_ext 3 gLits (w.alloc (.cells #[.slice none 0 0] 26))
  have hs1 := litW_size 3 gLits (w.alloc (.cells #[.slice none 0 0] 26))
  generalize litW 3 (w.alloc (.cells #[.slice none 0 0] 26)) gLits = w1 at hOl hE1 hs1 ⊢
  generalize w.alloc (.cells #[.slice none 0 0] 26) = wA at hB0 hE0 hs0 hOl hE1 hs1
  have hlen : gLits.length = 23 := rfl
  rw [hs0, hlen] at hs1
  have hBg : Blk (w1.alloc (.cells (litV (w.heap.size + 1) gLits).toArray 24)) (w.heap.size + 1 + 1 + 1 + 1 + 1 + 1 + 1 + 1 + 1 + 1 + 1 + 1 + 1 + 1 + 1 + 1 + 1 + 1 + 1 + 1 + 1 + 1 + 1 + 1) 24 (litV (w.heap.size + 1) gLits).toArray := Blk.new' (by omega)
  have hE2 : Ext w1 (w1.alloc (.cells (litV (w.heap.size + 1) gLits).toArray 24)) := (Ext.refl w1).alloc _
  generalize w1.alloc (.cells (litV (w.heap.size + 1) gLits).toArray 24) = w2 at hBg hE2 ⊢
  have hp := h.lt
  have hC2 := h.ext (hE0.trans (hE1.trans hE2))
  refine (l1Below_any w0 w2 p 23 (by omega) hC2).mono ?_
  rintro e w3 ⟨x, rfl, hb, hC, hF⟩
  obtain ⟨hx0, hx1⟩ := hb.2 (by omega)
  obtain ⟨k, rfl⟩ := Int.eq_ofNat_of_zero_le hx0
  have hk : k < 23 := by omega
  obtain ⟨L, hL⟩ : ∃ L, gLits[k]? = some L := ⟨_, List.getElem?_eq_getElem (by rw [hlen]; exact hk)⟩
  have hO3 := hF.own ((hOl k L hL).ext hE2) (by omega)
  have hBg3 := hF.blk hBg (by omega)
  have hcg := hBg3.cell (i := k) (v := .slice (some ⟨w.heap.size + 1 + k, 0, none⟩) L.length L.length) (by simpa using litV_get gLits (w.heap.size + 1) k L hL)
  have hB3 := hF.blk (hB0.ext (hE1.trans hE2)) (by omega)
  have hl3 : L.length ≤ 3 := by
    have : ∀ L ∈ gLits, L.length ≤ 3 := by decide
    exact this L (List.mem_of_getElem? hL)
  rw [hs0] at hO3
  obtain ⟨g, hg⟩ : ∃ g, g = w.heap.size + 1 + 1 + 1 + 1 + 1 + 1 + 1 + 1 + 1 + 1 + 1 + 1 + 1 + 1 + 1 + 1 + 1 + 1 + 1 + 1 + 1 + 1 + 1 + 1 := ⟨_, rfl⟩
  rw [← hg] at hcg ⊢
  have hixV : ∀ W, (Instr.indexAt 88 (.slice (some ⟨g, 0, none⟩) 23 23) (.int .i64 (k : Int))).run Try.prog W = .ok (.pointer (some ⟨g, k, none⟩)) W := fun W => by
    rw [run_indexAt_slice (h := elV), if_pos (by omega), szV]
    simp [Result.andThen, Addr.add_lit]
  obtain ⟨b, hbd⟩ : ∃ b, b = w.heap.size + 1 + k := ⟨_, rfl⟩
  rw [← hbd] at hcg hO3
  obtain ⟨ao', c', adr, hv, -, hadr, hcell⟩ := hO3.ints.op
  simp only [Value.slice.injEq] at hv
  obtain ⟨rfl, -, rfl⟩ := hv
  have hixo := ints_index (c := L.length) elI szI hadr
  have Hcell := Lib.hid hcell
  have hkb := hB3.cell (i := 0) (v := .slice none 0 0) rfl
  have hfb := hB3.free 0
  have hF3 := Lib.hid (((hE0.trans (hE1.trans hE2)).drw p).trans hF)
  have hsz := hF.size
  have HE0 := Lib.hid hE0
  clear hadr hcell hB0 hE0 hs0 hOl hE1 hs1 hBg hE2 hC2 hF hb hL hBg3 hg hbd
  go_wp2_with fail
  go_loopw [7, 8] (fun sn si wr => ∃ (q : Nat) (n : Int), q ≤ L.length ∧ si = .int .i64 q ∧ sn = .int .i64 n ∧ wr = w3) (fun _ si _ => L.length - (intOf si).toNat)
  case atStart => exact ⟨0, _, by omega, rfl, rfl, rfl⟩
  case round =>
    obtain ⟨q, n, hq, rfl, rfl, rfl⟩ := hrel
    by_cases hlt : q < L.length
    · have hltI : (q : Int) < (L.length : Int) := by omega
      have hck := Hcell.out q wr hlt (Ext.refl _)
      go_wp2_with fail
      go_roundw
      case rel => exact ⟨q + 1, _, by omega, by go_num, rfl, by trivial⟩
      case measure => (simp [intOf]; omega)
    · have hltI : ¬ (q : Int) < (L.length : Int) := by omega
      have hsw : w.heap.size < wr.heap.size := hB3.lt
      by_cases hgt : m < n
      · have hO := (own_made (TI := 3) (n := 1) (by omega) (Ext.refl wr) [5] rfl)
        have hBn := hB3.alloc (.cells #[.int .i64 5] 3)
        have kbn := hBn.cell (i := 0) (v := .slice none 0 0) rfl
        have fbn := hBn.free 0
        have kres := (hBn.set 0 (.slice (some ⟨wr.heap.size, 0, none⟩) 1 1)).cell (i := 0) (v := .slice (some ⟨wr.heap.size, 0, none⟩) 1 1) rfl
        go_wp2_with fail
        clear kbn fbn hBn hO kres
        have hs5 : (wr.setCell ⟨w.heap.size, 0, none⟩ (.slice (some ⟨wr.heap.size, 0, none⟩) 1 1)).heap.size = wr.heap.size := by simp
        have hO5 := (own_made (TI := 3) (n := 1) (by omega) (Ext.refl (wr.setCell ⟨w.heap.size, 0, none⟩ (.slice (some ⟨wr.heap.size, 0, none⟩) 1 1))) [5] rfl).low (w0 := w) (by omega)
        rw [hs5] at hO5
        have hC5 := (hC.other (b := w.heap.size) (i := 0) (by omega) (by omega) (.slice (some ⟨wr.heap.size, 0, none⟩) 1 1)).alloc (.cells #[.int .i64 5] 3)
        have hF5 := (hF3.out.set (Nat.le_refl _) 0 (.slice (some ⟨wr.heap.size, 0, none⟩) 1 1)).alloc (.cells #[.int .i64 5] 3)
        have kres := ((hB3.set 0 (.slice (some ⟨wr.heap.size, 0, none⟩) 1 1)).alloc (.cells #[.int .i64 5] 3)).cell (i := 0) (v := .slice (some ⟨wr.heap.size, 0, none⟩) 1 1) rfl
        change Own _ _ (World.alloc _ (.cells #[.int .i64 5] _)) _ _ at hO5
        generalize (wr.setCell ⟨w.heap.size, 0, none⟩ (.slice (some ⟨wr.heap.size, 0, none⟩) 1 1)).alloc (.cells #[.int .i64 5] 3) = w5 at kres hO5 hC5 hF5 ⊢
        refine bodyPost_ret (v := .agg #[.slice (some ⟨wr.heap.size, 0, none⟩) 1 1]) (by simp [results, Try.results213, go_sem, kres]) rfl ⟨_, [5], _, rfl, hO5, hC5, hF5⟩
      · have hO := (own_made (TI := 3) (n := 0) (by omega) (Ext.refl wr) [] rfl)
        have hIL := (hO3.alloc (.cells #[] 3)).ints
        have hEr := (Ext.refl wr).alloc (.cells #[] 3)
        go_wp2_with (at_builtin; refine wp_appends slI rfl _ _ rfl _ _ _ _ _ _ hO hIL hEr (by simp; omega) rfl rfl ?_; intro v1 w4 hO4 hE4; obtain ⟨a4, c4, rfl, -⟩ := hO4.shape; rw [List.nil_append] at hO4; have hB4 := hB3.ext hE4; have k4 := hB4.cell (i := 0) (v := .slice none 0 0) rfl; have f4 := hB4.free 0)
        have kres := (hB4.set 0 (.slice a4 L.length c4)).cell (i := 0) (v := .slice a4 L.length c4) rfl
        have hO5 := (Own.setCell_below hO4 (p := ⟨w.heap.size, 0, none⟩) hsw (.slice a4 L.length c4)).low (Nat.le_of_lt hsw)
        have hC5 := (hC.ext hE4).other (b := w.heap.size) (i := 0) (by omega) (by omega) (.slice a4 L.length c4)
        have hF5 := (hF3.out.trans (hE4.drw p)).set (Nat.le_refl _) 0 (.slice a4 L.length c4)
        generalize w4.setCell ⟨w.heap.size, 0, none⟩ (.slice a4 L.length c4) = w5 at kres hO5 hC5 hF5 ⊢
        refine bodyPost_ret (v := .agg #[.slice a4 L.length c4]) (by simp [results, Try.results213, go_sem, kres]) rfl ⟨_, L, _, rfl, hO5, hC5, hF5⟩
end Go.Zz
