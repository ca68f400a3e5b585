/- Elements that are added to kept counts and removed: the program. -/
import Derived.Test.YtgkojfjbfmpaaaaGr7
import Derived.Test.YtgkojfjbfmpaaaaGr8
import Derived.Deep.DeepCutAuto
import Derived.Deep.RegionHeld3
namespace Go.Zz
open Go.RowKit Go.Proofs
set_option maxHeartbeats 1000000
set_option maxRecDepth 20000

def kvL (b : Bool) (l : List Int) : List Int := if b then l else []
def kvN (b : Bool) (s : Nat) : Int := if b then (s : Int) else 0
def kvM (b : Bool) (l : List Int) (s : Nat) : List Int := if b then tabN l s s else []
theorem kv_no {b : Bool} (h : b = false) (l : List Int) (s : Nat) : kvL b l = [] ∧ kvN b s = 0 ∧ kvM b l s = [] := by subst h; exact ⟨rfl, rfl, rfl⟩
theorem kv_yes {b : Bool} (h : b = true) (l : List Int) (s : Nat) : kvL b l = l ∧ kvN b s = (s : Int) ∧ kvM b l s = tabN l s s := by subst h; exact ⟨rfl, rfl, rfl⟩
def adB (l : List Int) (n : Int) (m : List Int) (x : Int) : Bool := keptB l n m && hasB l x && !n.toNat.testBit x.toNat
def rmB (l : List Int) (n : Int) (m : List Int) (x : Int) : Bool := keptB l n m && hasB l x && n.toNat.testBit x.toNat
def adS (n x : Int) : Nat := n.toNat ||| 2 ^ x.toNat
def rmS (n x : Int) : Nat := andN n.toNat (2 ^ x.toNat)
theorem OwnK2.setCell_below {w0 w : World} {c : Value} {l m : List Int} {n : Int} (h : OwnK2 w0 w c l n m) {p : Addr} (hp : p.block < w0.heap.size) (x : Value) : OwnK2 w0 (w.setCell p x) c l n m := by
  obtain ⟨v, u, rfl, h1, h2, h3⟩ := h; exact ⟨v, u, rfl, h1.setCell_below hp x, h2.setCell_below hp x, h3⟩
theorem NewKept_yes (v : Value) (l : List Int) (s : Nat) (w : World) (h : Ints w v l) (hs : isSetB l s = true) :
    Calls Try.prog 12 #[.agg #[v], .int .i64 s] w fun e w' => ∃ ao co ap cp, e = .returned (.tuple #[.agg #[.slice ao l.length co, .int .i64 s, .slice ap (tabN l s s).length cp], .bool true]) ∧ OwnK2 w w' (.agg #[.slice ao l.length co, .int .i64 s, .slice ap (tabN l s s).length cp]) l s (tabN l s s) ∧ Ext w w' :=
  (NewKept_any v l s w h).mono fun e w' ⟨c, he, hK, hE⟩ => by
    rw [(nk_yes hs).1, (nk_yes hs).2, tabF_N (by rw [hs]; rfl)] at hK
    have hK' := hK
    obtain ⟨v1, u1, rfl, h1, h2, -⟩ := hK
    obtain ⟨ao, co, rfl, -⟩ := h1.shape
    obtain ⟨ap, cp, rfl, -⟩ := h2.shape
    exact ⟨ao, co, ap, cp, by rw [he, hs], hK', hE⟩
theorem or_lt {l : List Int} {a x : Nat} (ha : a < 2 ^ ord l) (hx : x < ord l) : a ||| 2 ^ x < 2 ^ ord l := Nat.or_lt_two_pow ha (Nat.pow_lt_pow_right (by omega) hx)

theorem AddTo_any (c : Value) (l m : List Int) (n x : Int) (w : World) (h : IsK w c l n m) :
    Calls Try.prog 9 #[c, .int .i64 x] w fun e w' => ∃ d, e = .returned (.tuple #[d, .bool (adB l n m x)]) ∧ OwnK2 w w' d (kvL (adB l n m x) l) (kvN (adB l n m x) (adS n x)) (kvM (adB l n m x) l (adS n x)) ∧ Ext w w' := by
  obtain ⟨v, u, rfl, hv, hu⟩ := h
  obtain ⟨wb, hwb⟩ : ∃ wb, wb = w.alloc (.cells #[v, .int .i64 n, u] 28) := ⟨_, rfl⟩
  have hE0 : Ext w wb := by rw [hwb]; exact (Ext.refl _).alloc _
  have B0 : Blk wb w.heap.size 28 #[v, .int .i64 n, u] := by rw [hwb]; exact Blk.new _ _ _
  have b0 : ∀ W, Ext wb W → W.cell? ⟨w.heap.size, 0, none⟩ = some v := fun W hW => (B0.ext hW).cell (i := 0) rfl
  have b1 : ∀ W, Ext wb W → W.cell? ⟨w.heap.size, 1, none⟩ = some (.int .i64 n) := fun W hW => (B0.ext hW).cell (i := 1) rfl
  have b2 : ∀ W, Ext wb W → W.cell? ⟨w.heap.size, 2, none⟩ = some u := fun W hW => (B0.ext hW).cell (i := 2) rfl
  have hg : ∀ W, Ext wb W → Ints W v l := fun W hW => hv.ext (hE0.trans hW)
  have hg2 : ∀ W, Ext wb W → Ints W u m := fun W hW => hu.ext (hE0.trans hW)
  have hE := Ext.refl wb
  have Hsz : Hid (w.heap.size + 1 = wb.heap.size) := Lib.hid (by rw [hwb]; simp [go_sem])
  have Hwb := Lib.hid hwb
  clear hwb hv hu B0
  obtain ⟨wc, hwc⟩ : ∃ wc, wc = wb.alloc (.cells #[.slice none 0 0, .int .i64 0, .slice none 0 0] 28) := ⟨_, rfl⟩
  have hBc : Blk wc wb.heap.size 28 #[.slice none 0 0, .int .i64 0, .slice none 0 0] := by rw [hwc]; exact Blk.new _ _ _
  have hRc : Res wc wb.heap.size 3 := hBc.res (by simp)
  have hAc : Ext wb wc := by rw [hwc]; exact hE.alloc _
  replace hE := Ext.refl wc
  have Hsz2 : Hid (wb.heap.size + 1 = wc.heap.size) := Lib.hid (by rw [hwc]; simp [go_sem])
  have Hwc := Lib.hid hwc
  clear hwc hBc
  have hwc : wb.heap.size < wc.heap.size := by have := Hsz2.out; omega
  have c0 : ∀ W, Ext wc W → W.cell? ⟨w.heap.size, 0, none⟩ = some v := fun W hW => b0 W (hAc.trans hW)
  have c1 : ∀ W, Ext wc W → W.cell? ⟨w.heap.size, 1, none⟩ = some (.int .i64 n) := fun W hW => b1 W (hAc.trans hW)
  have c2 : ∀ W, Ext wc W → W.cell? ⟨w.heap.size, 2, none⟩ = some u := fun W hW => b2 W (hAc.trans hW)
  have hgc : ∀ W, Ext wc W → Ints W v l := fun W hW => hg W (hAc.trans hW)
  have hg2c : ∀ W, Ext wc W → Ints W u m := fun W hW => hg2 W (hAc.trans hW)
  have hrr : ∀ W, Ext wc W → ∀ i, i < 3 → W.cell? ⟨wb.heap.size, i, none⟩ = some (At W ⟨wb.heap.size, i, none⟩) ∧ W.frozen? ⟨wb.heap.size, i, none⟩ = false := fun W hW => hRc.ext hW
  cases hk : keptB l n m
  · have Hv : Hid (adB l n m x = false) := Lib.hid (by unfold adB; rw [hk]; rfl)
    have hr := hrr
    go_enter Try.func9, Try.ntmps9
    go_wp2_with fail
    rw [← Hwb.out, ← Hwc.out]; rw [Hsz.out]
    go_wp2_with (first | (go_at_call 14; refine (IsKept_val _ _ _ _ _ (⟨_, _, rfl, hgc _ hE, hg2c _ hE⟩) (hk)).mono ?_; rintro e w' ⟨rfl, hE'⟩; replace hE := hE.trans hE'; clear hE'))
    exact bodyPost_ret (v := .tuple #[.agg #[.slice none 0 0, .int .i64 0, .slice none 0 0], .bool false]) (by simp [results, Try.results9, go_sem, hrr _ hE]) rfl ⟨_, by rw [Hv.out], by rw [(kv_no Hv.out l 0).1, (kv_no Hv.out l _).2.1, (kv_no Hv.out l _).2.2]; exact OwnK2.none _ _, hE0.trans (Ext.setCell (Ext.setCell (Ext.setCell (hAc.trans hE) (Nat.le_refl _) _) (Nat.le_refl _) _) (Nat.le_refl _) _)⟩
  · cases hx : hasB l x
    · have Hv : Hid (adB l n m x = false) := Lib.hid (by unfold adB; rw [hx]; simp)
      go_enter Try.func9, Try.ntmps9
      go_wp2_with fail
      rw [← Hwb.out, ← Hwc.out]; rw [Hsz.out]
      go_wp2_with (first | (go_at_call 14; refine (IsKept_val _ _ _ _ _ (⟨_, _, rfl, hgc _ hE, hg2c _ hE⟩) (hk)).mono ?_; rintro e w' ⟨rfl, hE'⟩; replace hE := hE.trans hE'; clear hE') | (go_at_call 60; refine (has_val _ _ _ _ (hgc _ hE) hx).mono ?_; rintro e w' ⟨rfl, hE'⟩; replace hE := hE.trans hE'; clear hE'))
      exact bodyPost_ret (v := .tuple #[.agg #[.slice none 0 0, .int .i64 0, .slice none 0 0], .bool false]) (by simp [results, Try.results9, go_sem, hrr _ hE]) rfl ⟨_, by rw [Hv.out], by rw [(kv_no Hv.out l 0).1, (kv_no Hv.out l _).2.1, (kv_no Hv.out l _).2.2]; exact OwnK2.none _ _, hE0.trans (Ext.setCell (Ext.setCell (Ext.setCell (hAc.trans hE) (Nat.le_refl _) _) (Nat.le_refl _) _) (Nat.le_refl _) _)⟩
    · have HB : Hid (adB l n m x = !  n.toNat.testBit x.toNat) := Lib.hid (by unfold adB; rw [hk, hx]; rfl)
      obtain ⟨a, rfl, ha1, ha2, hgr, -, hsa⟩ := keptB_nat hk
      obtain ⟨x, rfl, hx2, -⟩ := hasB_nat hx
      have hob := ord_bd hgr
      have HS : Hid (adS (a : Int) (x : Int) = HOr.hOr a (2 ^ x)) := Lib.hid rfl
      have Hgr := Lib.hid hgr
      clear hgr
      cases hb : a.testBit x
      · have Hv : Hid (adB l a m x = true) := Lib.hid (by rw [HB.out]; simp [hb])
        have hs1 := ishl_one (n := x) (by omega)
        obtain ⟨s, hsd⟩ : ∃ s, s = HOr.hOr a (2 ^ x) := ⟨_, rfl⟩; have hsb : s < 2 ^ ord l := (by rw [hsd]; exact or_lt ha1 hx2); have hs2 : ior (a : Int) ((pw x : Nat) : Int) = (s : Int) := (by rw [hsd]; exact ior_pw ha2 (by omega)); rw [← hsd] at HS; clear hsd
        rw [Hv.out, HS.out]
        have hsl : s < 2 ^ 24 := Nat.lt_of_lt_of_le hsb (pow_ord Hgr.out)
        have hss : isSetB l (s : Int) = true := isSetB_of Hgr.out hsb
        rw [(kv_yes rfl l s).1, (kv_yes rfl l s).2.1, (kv_yes rfl l s).2.2]
        go_enter Try.func9, Try.ntmps9
        go_wp2_with fail
        rw [← Hwb.out, ← Hwc.out]; rw [Hsz.out]
        go_wp2_with (first | (go_at_call 14; refine (IsKept_val _ _ _ _ _ (⟨_, _, rfl, hgc _ hE, hg2c _ hE⟩) (hk)).mono ?_; rintro e w' ⟨rfl, hE'⟩; replace hE := hE.trans hE'; clear hE') | (go_at_call 60; refine (has_val _ _ _ _ (hgc _ hE) hx).mono ?_; rintro e w' ⟨rfl, hE'⟩; replace hE := hE.trans hE'; clear hE') | (go_at_call 61; refine (in_val a x ha2 (by omega) _ hb).mono ?_; rintro e w' ⟨rfl, rfl⟩))
        clear hk hx hb
        have hD := hE.drew
        first | (go_region_held3 (fun W => Ext (wb) W ∧ W.cell? ⟨w.heap.size, 0, none⟩ = some v ∧ W.cell? ⟨w.heap.size, 1, none⟩ = some (.int .i64 (a : Int)) ∧ (∀ i, i < 3 → W.cell? ⟨(wb).heap.size, i, none⟩ = some (At W ⟨(wb).heap.size, i, none⟩) ∧ W.frozen? ⟨(wb).heap.size, i, none⟩ = false)) (exact ⟨(by (repeat (refine Ext.setCell ?_ (Nat.le_refl _) _)); exact Ext.trans hAc (by repeat (first | assumption | exact Ext.refl _ | (apply And.left; assumption) | apply Ext.drew | apply Ext.alloc))), b0 _ (by (repeat (refine Ext.setCell ?_ (Nat.le_refl _) _)); exact Ext.trans hAc (by repeat (first | assumption | exact Ext.refl _ | (apply And.left; assumption) | apply Ext.drew | apply Ext.alloc))), b1 _ (by (repeat (refine Ext.setCell ?_ (Nat.le_refl _) _)); exact Ext.trans hAc (by repeat (first | assumption | exact Ext.refl _ | (apply And.left; assumption) | apply Ext.drew | apply Ext.alloc))), (by (repeat (refine Res.setCell ?_ _ _)); exact Res.ext hRc (by repeat (first | assumption | exact Ext.refl _ | (apply And.left; assumption) | apply Ext.drew | apply Ext.alloc)))⟩) (first | (go_at_call 12; ((with_reducible refine Calls.mono (NewKept_yes _ _ s _ (hgc _ (by repeat (first | assumption | exact Ext.refl _ | (apply And.left; assumption) | apply Ext.drew | apply Ext.alloc))) hss) ?_); rintro e wH0 ⟨ao, co, ap, cp, rfl, hK1, hX0⟩; have hH0 := Ext.trans (a := wc) (by repeat (first | assumption | exact Ext.refl _ | (apply And.left; assumption) | apply Ext.drew | apply Ext.alloc)) hX0)))) | (fail "the region with a result")
        go_wp2_with fail
        have hK2 := hK1.mono (show Ext wc _ by repeat (first | assumption | exact Ext.refl _ | (apply And.left; assumption) | apply Ext.drew | apply Ext.alloc))
        exact bodyPost_ret (v := .tuple #[.agg #[.slice ao l.length co, .int .i64 s, .slice ap (tabN l s s).length cp], .bool true]) (by simp [results, Try.results9, go_sem, hrr _ hH0]) rfl ⟨_, rfl, (((hK2.setCell_below hwc _).setCell_below hwc _).setCell_below hwc _).mono (hE0.trans hAc), hE0.trans (Ext.setCell (Ext.setCell (Ext.setCell (hAc.trans hH0) (Nat.le_refl _) _) (Nat.le_refl _) _) (Nat.le_refl _) _)⟩
      · have Hv : Hid (adB l a m x = false) := Lib.hid (by rw [HB.out]; simp [hb])
        go_enter Try.func9, Try.ntmps9
        go_wp2_with fail
        rw [← Hwb.out, ← Hwc.out]; rw [Hsz.out]
        go_wp2_with (first | (go_at_call 14; refine (IsKept_val _ _ _ _ _ (⟨_, _, rfl, hgc _ hE, hg2c _ hE⟩) (hk)).mono ?_; rintro e w' ⟨rfl, hE'⟩; replace hE := hE.trans hE'; clear hE') | (go_at_call 60; refine (has_val _ _ _ _ (hgc _ hE) hx).mono ?_; rintro e w' ⟨rfl, hE'⟩; replace hE := hE.trans hE'; clear hE') | (go_at_call 61; refine (in_val a x ha2 (by omega) _ hb).mono ?_; rintro e w' ⟨rfl, rfl⟩))
        exact bodyPost_ret (v := .tuple #[.agg #[.slice none 0 0, .int .i64 0, .slice none 0 0], .bool false]) (by simp [results, Try.results9, go_sem, hrr _ hE]) rfl ⟨_, by rw [Hv.out], by rw [(kv_no Hv.out l 0).1, (kv_no Hv.out l _).2.1, (kv_no Hv.out l _).2.2]; exact OwnK2.none _ _, hE0.trans (Ext.setCell (Ext.setCell (Ext.setCell (hAc.trans hE) (Nat.le_refl _) _) (Nat.le_refl _) _) (Nat.le_refl _) _)⟩
theorem RemoveFrom_any (c : Value) (l m : List Int) (n x : Int) (w : World) (h : IsK w c l n m) :
    Calls Try.prog 13 #[c, .int .i64 x] w fun e w' => ∃ d, e = .returned (.tuple #[d, .bool (rmB l n m x)]) ∧ OwnK2 w w' d (kvL (rmB l n m x) l) (kvN (rmB l n m x) (rmS n x)) (kvM (rmB l n m x) l (rmS n x)) ∧ Ext w w' := by
  obtain ⟨v, u, rfl, hv, hu⟩ := h
  obtain ⟨wb, hwb⟩ : ∃ wb, wb = w.alloc (.cells #[v, .int .i64 n, u] 28) := ⟨_, rfl⟩
  have hE0 : Ext w wb := by rw [hwb]; exact (Ext.refl _).alloc _
  have B0 : Blk wb w.heap.size 28 #[v, .int .i64 n, u] := by rw [hwb]; exact Blk.new _ _ _
  have b0 : ∀ W, Ext wb W → W.cell? ⟨w.heap.size, 0, none⟩ = some v := fun W hW => (B0.ext hW).cell (i := 0) rfl
  have b1 : ∀ W, Ext wb W → W.cell? ⟨w.heap.size, 1, none⟩ = some (.int .i64 n) := fun W hW => (B0.ext hW).cell (i := 1) rfl
  have b2 : ∀ W, Ext wb W → W.cell? ⟨w.heap.size, 2, none⟩ = some u := fun W hW => (B0.ext hW).cell (i := 2) rfl
  have hg : ∀ W, Ext wb W → Ints W v l := fun W hW => hv.ext (hE0.trans hW)
  have hg2 : ∀ W, Ext wb W → Ints W u m := fun W hW => hu.ext (hE0.trans hW)
  have hE := Ext.refl wb
  have Hsz : Hid (w.heap.size + 1 = wb.heap.size) := Lib.hid (by rw [hwb]; simp [go_sem])
  have Hwb := Lib.hid hwb
  clear hwb hv hu B0
  obtain ⟨wc, hwc⟩ : ∃ wc, wc = wb.alloc (.cells #[.slice none 0 0, .int .i64 0, .slice none 0 0] 28) := ⟨_, rfl⟩
  have hBc : Blk wc wb.heap.size 28 #[.slice none 0 0, .int .i64 0, .slice none 0 0] := by rw [hwc]; exact Blk.new _ _ _
  have hRc : Res wc wb.heap.size 3 := hBc.res (by simp)
  have hAc : Ext wb wc := by rw [hwc]; exact hE.alloc _
  replace hE := Ext.refl wc
  have Hsz2 : Hid (wb.heap.size + 1 = wc.heap.size) := Lib.hid (by rw [hwc]; simp [go_sem])
  have Hwc := Lib.hid hwc
  clear hwc hBc
  have hwc : wb.heap.size < wc.heap.size := by have := Hsz2.out; omega
  have c0 : ∀ W, Ext wc W → W.cell? ⟨w.heap.size, 0, none⟩ = some v := fun W hW => b0 W (hAc.trans hW)
  have c1 : ∀ W, Ext wc W → W.cell? ⟨w.heap.size, 1, none⟩ = some (.int .i64 n) := fun W hW => b1 W (hAc.trans hW)
  have c2 : ∀ W, Ext wc W → W.cell? ⟨w.heap.size, 2, none⟩ = some u := fun W hW => b2 W (hAc.trans hW)
  have hgc : ∀ W, Ext wc W → Ints W v l := fun W hW => hg W (hAc.trans hW)
  have hg2c : ∀ W, Ext wc W → Ints W u m := fun W hW => hg2 W (hAc.trans hW)
  have hrr : ∀ W, Ext wc W → ∀ i, i < 3 → W.cell? ⟨wb.heap.size, i, none⟩ = some (At W ⟨wb.heap.size, i, none⟩) ∧ W.frozen? ⟨wb.heap.size, i, none⟩ = false := fun W hW => hRc.ext hW
  cases hk : keptB l n m
  · have Hv : Hid (rmB l n m x = false) := Lib.hid (by unfold rmB; rw [hk]; rfl)
    have hr := hrr
    go_enter Try.func13, Try.ntmps13
    go_wp2_with fail
    rw [← Hwb.out, ← Hwc.out]; rw [Hsz.out]
    go_wp2_with (first | (go_at_call 14; refine (IsKept_val _ _ _ _ _ (⟨_, _, rfl, hgc _ hE, hg2c _ hE⟩) (hk)).mono ?_; rintro e w' ⟨rfl, hE'⟩; replace hE := hE.trans hE'; clear hE'))
    exact bodyPost_ret (v := .tuple #[.agg #[.slice none 0 0, .int .i64 0, .slice none 0 0], .bool false]) (by simp [results, Try.results13, go_sem, hrr _ hE]) rfl ⟨_, by rw [Hv.out], by rw [(kv_no Hv.out l 0).1, (kv_no Hv.out l _).2.1, (kv_no Hv.out l _).2.2]; exact OwnK2.none _ _, hE0.trans (Ext.setCell (Ext.setCell (Ext.setCell (hAc.trans hE) (Nat.le_refl _) _) (Nat.le_refl _) _) (Nat.le_refl _) _)⟩
  · cases hx : hasB l x
    · have Hv : Hid (rmB l n m x = false) := Lib.hid (by unfold rmB; rw [hx]; simp)
      go_enter Try.func13, Try.ntmps13
      go_wp2_with fail
      rw [← Hwb.out, ← Hwc.out]; rw [Hsz.out]
      go_wp2_with (first | (go_at_call 14; refine (IsKept_val _ _ _ _ _ (⟨_, _, rfl, hgc _ hE, hg2c _ hE⟩) (hk)).mono ?_; rintro e w' ⟨rfl, hE'⟩; replace hE := hE.trans hE'; clear hE') | (go_at_call 60; refine (has_val _ _ _ _ (hgc _ hE) hx).mono ?_; rintro e w' ⟨rfl, hE'⟩; replace hE := hE.trans hE'; clear hE'))
      exact bodyPost_ret (v := .tuple #[.agg #[.slice none 0 0, .int .i64 0, .slice none 0 0], .bool false]) (by simp [results, Try.results13, go_sem, hrr _ hE]) rfl ⟨_, by rw [Hv.out], by rw [(kv_no Hv.out l 0).1, (kv_no Hv.out l _).2.1, (kv_no Hv.out l _).2.2]; exact OwnK2.none _ _, hE0.trans (Ext.setCell (Ext.setCell (Ext.setCell (hAc.trans hE) (Nat.le_refl _) _) (Nat.le_refl _) _) (Nat.le_refl _) _)⟩
    · have HB : Hid (rmB l n m x =   n.toNat.testBit x.toNat) := Lib.hid (by unfold rmB; rw [hk, hx]; rfl)
      obtain ⟨a, rfl, ha1, ha2, hgr, -, hsa⟩ := keptB_nat hk
      obtain ⟨x, rfl, hx2, -⟩ := hasB_nat hx
      have hob := ord_bd hgr
      have HS : Hid (rmS (a : Int) (x : Int) = andN a (2 ^ x)) := Lib.hid rfl
      have Hgr := Lib.hid hgr
      clear hgr
      cases hb : a.testBit x
      · have Hv : Hid (rmB l a m x = false) := Lib.hid (by rw [HB.out]; simp [hb])
        go_enter Try.func13, Try.ntmps13
        go_wp2_with fail
        rw [← Hwb.out, ← Hwc.out]; rw [Hsz.out]
        go_wp2_with (first | (go_at_call 14; refine (IsKept_val _ _ _ _ _ (⟨_, _, rfl, hgc _ hE, hg2c _ hE⟩) (hk)).mono ?_; rintro e w' ⟨rfl, hE'⟩; replace hE := hE.trans hE'; clear hE') | (go_at_call 60; refine (has_val _ _ _ _ (hgc _ hE) hx).mono ?_; rintro e w' ⟨rfl, hE'⟩; replace hE := hE.trans hE'; clear hE') | (go_at_call 61; refine (in_val a x ha2 (by omega) _ hb).mono ?_; rintro e w' ⟨rfl, rfl⟩))
        exact bodyPost_ret (v := .tuple #[.agg #[.slice none 0 0, .int .i64 0, .slice none 0 0], .bool false]) (by simp [results, Try.results13, go_sem, hrr _ hE]) rfl ⟨_, by rw [Hv.out], by rw [(kv_no Hv.out l 0).1, (kv_no Hv.out l _).2.1, (kv_no Hv.out l _).2.2]; exact OwnK2.none _ _, hE0.trans (Ext.setCell (Ext.setCell (Ext.setCell (hAc.trans hE) (Nat.le_refl _) _) (Nat.le_refl _) _) (Nat.le_refl _) _)⟩
      · have Hv : Hid (rmB l a m x = true) := Lib.hid (by rw [HB.out]; simp [hb])
        have hs1 := ishl_one (n := x) (by omega)
        obtain ⟨s, hsd⟩ : ∃ s, s = andN a (2 ^ x) := ⟨_, rfl⟩; have hsb : s < 2 ^ ord l := (by rw [hsd]; exact andN_lt ha1); have hp24 := pw_le (show x ≤ 24 by omega); have hs2 : iandn (a : Int) ((pw x : Nat) : Int) = (s : Int) := (by rw [hsd]; exact iandn_nat (by omega) (by omega)); rw [← hsd] at HS; clear hsd
        rw [Hv.out, HS.out]
        have hsl : s < 2 ^ 24 := Nat.lt_of_lt_of_le hsb (pow_ord Hgr.out)
        have hss : isSetB l (s : Int) = true := isSetB_of Hgr.out hsb
        rw [(kv_yes rfl l s).1, (kv_yes rfl l s).2.1, (kv_yes rfl l s).2.2]
        go_enter Try.func13, Try.ntmps13
        go_wp2_with fail
        rw [← Hwb.out, ← Hwc.out]; rw [Hsz.out]
        go_wp2_with (first | (go_at_call 14; refine (IsKept_val _ _ _ _ _ (⟨_, _, rfl, hgc _ hE, hg2c _ hE⟩) (hk)).mono ?_; rintro e w' ⟨rfl, hE'⟩; replace hE := hE.trans hE'; clear hE') | (go_at_call 60; refine (has_val _ _ _ _ (hgc _ hE) hx).mono ?_; rintro e w' ⟨rfl, hE'⟩; replace hE := hE.trans hE'; clear hE') | (go_at_call 61; refine (in_val a x ha2 (by omega) _ hb).mono ?_; rintro e w' ⟨rfl, rfl⟩))
        clear hk hx hb
        have hD := hE.drew
        first | (go_region_held3 (fun W => Ext (wb) W ∧ W.cell? ⟨w.heap.size, 0, none⟩ = some v ∧ W.cell? ⟨w.heap.size, 1, none⟩ = some (.int .i64 (a : Int)) ∧ (∀ i, i < 3 → W.cell? ⟨(wb).heap.size, i, none⟩ = some (At W ⟨(wb).heap.size, i, none⟩) ∧ W.frozen? ⟨(wb).heap.size, i, none⟩ = false)) (exact ⟨(by (repeat (refine Ext.setCell ?_ (Nat.le_refl _) _)); exact Ext.trans hAc (by repeat (first | assumption | exact Ext.refl _ | (apply And.left; assumption) | apply Ext.drew | apply Ext.alloc))), b0 _ (by (repeat (refine Ext.setCell ?_ (Nat.le_refl _) _)); exact Ext.trans hAc (by repeat (first | assumption | exact Ext.refl _ | (apply And.left; assumption) | apply Ext.drew | apply Ext.alloc))), b1 _ (by (repeat (refine Ext.setCell ?_ (Nat.le_refl _) _)); exact Ext.trans hAc (by repeat (first | assumption | exact Ext.refl _ | (apply And.left; assumption) | apply Ext.drew | apply Ext.alloc))), (by (repeat (refine Res.setCell ?_ _ _)); exact Res.ext hRc (by repeat (first | assumption | exact Ext.refl _ | (apply And.left; assumption) | apply Ext.drew | apply Ext.alloc)))⟩) (first | (go_at_call 12; ((with_reducible refine Calls.mono (NewKept_yes _ _ s _ (hgc _ (by repeat (first | assumption | exact Ext.refl _ | (apply And.left; assumption) | apply Ext.drew | apply Ext.alloc))) hss) ?_); rintro e wH0 ⟨ao, co, ap, cp, rfl, hK1, hX0⟩; have hH0 := Ext.trans (a := wc) (by repeat (first | assumption | exact Ext.refl _ | (apply And.left; assumption) | apply Ext.drew | apply Ext.alloc)) hX0)))) | (fail "the region with a result")
        go_wp2_with fail
        have hK2 := hK1.mono (show Ext wc _ by repeat (first | assumption | exact Ext.refl _ | (apply And.left; assumption) | apply Ext.drew | apply Ext.alloc))
        exact bodyPost_ret (v := .tuple #[.agg #[.slice ao l.length co, .int .i64 s, .slice ap (tabN l s s).length cp], .bool true]) (by simp [results, Try.results13, go_sem, hrr _ hH0]) rfl ⟨_, rfl, (((hK2.setCell_below hwc _).setCell_below hwc _).setCell_below hwc _).mono (hE0.trans hAc), hE0.trans (Ext.setCell (Ext.setCell (Ext.setCell (hAc.trans hH0) (Nat.le_refl _) _) (Nat.le_refl _) _) (Nat.le_refl _) _)⟩
end Go.Zz

/- Steps of regions that draw their order: a struct variable is made, a struct is stored into it. -/
namespace Go.Zz
open Go.RowKit Go.Proofs
set_option maxHeartbeats 2000000
set_option maxRecDepth 20000

theorem step_allocK {ops : Array Oper} {o : Oper} {a : Act} {w : World} {K : Act → World → Prop} {Q : Exit → Act → World → Prop} {E : Prop} (hg : o.guard = none) (hop : o.op = Op.alloc 28)
    (hK : ∀ g w', Blk w' g 28 #[.slice none 0 0, .int .i64 0, .slice none 0 0] → w.heap.size ≤ g → Ext w w' → K (a.put o.dst (.pointer (some ⟨g, 0, none⟩))) w') :
    if Region.wanted o (yielded ops a.tmps) = true then Oper.wp Try.prog o a w K Q else E := by
  have hw : Region.wanted o (yielded ops a.tmps) = true := by simp [Region.wanted, hg]
  rw [if_pos hw]
  have := hK w.heap.size (w.alloc (.cells #[.slice none 0 0, .int .i64 0, .slice none 0 0] 28)) (Blk.new _ _ _) (Nat.le_refl _) ((Ext.refl w).alloc _)
  unfold Oper.wp
  simp [execOp, hop, Result.andThen, go_sem, Instr.alloc]
  exact this
theorem step_storeK {ops : Array Oper} {o : Oper} {a : Act} {w : World} {K : Act → World → Prop} {Q : Exit → Act → World → Prop} {E : Prop} (hg : o.guard = none) (p x : Operand) (hop : o.op = Op.store 28 p x) (hd : o.dst = none)
    (g : Nat) (ao ap : Option Addr) (n m c d : Nat) (z : Int) (hp : a.eval p = .pointer (some ⟨g, 0, none⟩)) (hx : a.eval x = .agg #[.slice ao n c, .int .i64 z, .slice ap m d]) (hB : Blk w g 28 #[.slice none 0 0, .int .i64 0, .slice none 0 0])
    (hK : Blk (((w.setCell ⟨g, 0, none⟩ (.slice ao n c)).setCell ⟨g, 1, none⟩ (.int .i64 z)).setCell ⟨g, 2, none⟩ (.slice ap m d)) g 28 #[.slice ao n c, .int .i64 z, .slice ap m d] → K a (((w.setCell ⟨g, 0, none⟩ (.slice ao n c)).setCell ⟨g, 1, none⟩ (.int .i64 z)).setCell ⟨g, 2, none⟩ (.slice ap m d))) :
    if Region.wanted o (yielded ops a.tmps) = true then Oper.wp Try.prog o a w K Q else E := by
  have hw : Region.wanted o (yielded ops a.tmps) = true := by simp [Region.wanted, hg]
  rw [if_pos hw]
  have h0 := hB.cell (i := 0) (v := .slice none 0 0) rfl
  have h1 := hB.cell (i := 1) (v := .int .i64 0) rfl
  have h2 := hB.cell (i := 2) (v := .slice none 0 0) rfl
  have f0 := hB.free 0
  have f1 := hB.free 1
  have f2 := hB.free 2
  have := hK (((hB.set 0 _).set 1 _).set 2 _)
  unfold Oper.wp
  simp only [execOp, hop, hp, hx]
  simp [Result.andThen, go_sem, h0, h1, h2, f0, f1, f2, hd]
  simpa [Act.put, hd] using this
/-- append([]int{}, xs...) as a step of a region that draws its order; where its block lies -/
theorem step_copy2 {P : Program} {ops : Array Oper} {o : Oper} {a : Act} {w : World} {K : Act → World → Prop} {Q : Exit → Act → World → Prop} {E : Prop} {T TI : TypeId} (hT : IntSl P T TI)
    (hg : o.guard = none) (s x : Operand) (hop : o.op = Op.call { callee := Callee.builtin Builtin.append, args := #[s, x], argTypes := #[T, T] })
    (g : Nat) (u : Value) (m : List Int) (hs : a.eval s = .slice (some ⟨g, 0, none⟩) 0 0) (hx : a.eval x = u) (hB : Blk w g TI #[]) (hI : Ints w u m) (w0 : World) (h0 : w0.heap.size ≤ g) (hE : Ext w0 w)
    (hK : ∀ ao c w', Own TI w0 w' (.slice ao m.length c) m → (∀ k, (Value.slice ao m.length c).ownBlock = some k → k = g ∨ w.heap.size ≤ k) → Ext w w' → K (a.put o.dst (.slice ao m.length c)) w') :
    if Region.wanted o (yielded ops a.tmps) = true then Oper.wp P o a w K Q else E := by
  have hw : Region.wanted o (yielded ops a.tmps) = true := by simp [Region.wanted, hg]
  rw [if_pos hw]
  obtain ⟨i, hi, hz, hs1, hby⟩ := hT.info
  have hown : w.ownsRow w0.heap.size TI 1 (.slice (some ⟨g, 0, none⟩) 0 0) 0 [] := by
    have hB' : w.heap[g]? = some (.cells #[] TI (0, 0)) := hB
    exact ⟨by simp, Or.inr ⟨g, 0, #[], rfl, h0, hB', Nat.le_refl _, Nat.zero_le _, by simp, by simp⟩⟩
  obtain ⟨ao, c, rfl, hmc, hml, hc⟩ := hI
  have key : m = [] → Oper.wp P o a w K Q := by
    intro hm
    subst hm
    have hrun2 : (Builtin.append_ #[T, T] o.type #[.slice (some ⟨g, 0, none⟩) 0 0, .slice ao 0 c]).run P w = .ok (.slice (some ⟨g, 0, none⟩) 0 0) w := by
      have hrun := run_append_owned_none (P := P) w w0.heap.size T o.type TI i 1 hT.und hi (.slice (some ⟨g, 0, none⟩) 0 0) 0 [] hown
      rw [← hrun]; cases ao <;> simp [Builtin.append_, run_underlying hT.und, sizeOf, typeInfo, hi, Builtin.lenOf, Builtin.firstCells, go_sem]
    unfold Oper.wp
    simp [execOp, hop, resolve, invoke, builtin, hs, hx, hrun2, Result.andThen]
    exact hK (some ⟨g, 0, none⟩) 0 _ ⟨by simpa using hown, by simp⟩ (fun k hk => by simp [Value.ownBlock] at hk; exact Or.inl hk.symm) (Ext.refl w)
  by_cases hm : m = []
  · exact key hm
  · have hpos : 0 < m.length := Nat.pos_of_ne_zero (fun e => hm (List.eq_nil_of_length_eq_zero e))
    cases ao with
    | none => obtain ⟨_, h, _⟩ := hc 0 hpos; cases h
    | some ad =>
      obtain ⟨v', w', hrun, r1, r2⟩ := run_append_arg_grows (P := P) (w := w) T o.type TI i (.int .i64 0) 1 8 hT.und hi hz hs1 hby rfl (by omega) ⟨g, 0, none⟩ 0 0 [] (by simp) (by simp) ad m.length c (m.map (Value.int .i64)) (by simp) (by
        intro j u hu
        have hj : j < m.length := by have := (List.getElem?_eq_some_iff.1 hu).1; simpa using this
        obtain ⟨a', ha', hc'⟩ := hc j hj
        cases ha'
        rw [hc', ← hu, nth_get _ _ hj]; simp [hj]) (by omega) (by unfold maxLen; omega) (by omega)
      unfold Oper.wp
      simp [execOp, hop, resolve, invoke, builtin, hs, hx, hrun, Result.andThen]
      have hO' : Own TI w w' v' m := ⟨by simpa using r1, hml⟩
      obtain ⟨ao', c', rfl, -⟩ := hO'.shape
      exact hK ao' c' w' (hO'.mono hE) (fun k hk => Or.inr (hO'.blk k hk).1) ((Ext.refl w).grown r2 (by simp))
theorem step_build {ops : Array Oper} {o : Oper} {a : Act} {w : World} {K : Act → World → Prop} {Q : Exit → Act → World → Prop} {E : Prop} (hg : o.guard = none) (hop : o.op = Op.buildSlice 24 0 #[])
    (hK : ∀ g w', Blk w' g 3 #[] → w.heap.size ≤ g → Ext w w' → K (a.put o.dst (.slice (some ⟨g, 0, none⟩) 0 0)) w') :
    if Region.wanted o (yielded ops a.tmps) = true then Oper.wp Try.prog o a w K Q else E := by
  have hw : Region.wanted o (yielded ops a.tmps) = true := by simp [Region.wanted, hg]
  rw [if_pos hw]
  have := hK w.heap.size (w.alloc (.cells #[] 3)) (Blk.new _ _ _) (Nat.le_refl _) ((Ext.refl w).alloc _)
  unfold Oper.wp
  simp [execOp, hop, Result.andThen, go_sem]
  exact this
theorem grown_setCell (w : World) (a : Addr) (u : Value) : w.grownBy (w.setCell a u) (some a.block) :=
  ⟨rfl, rfl, rfl, by simp, fun k _ hk => Below.heap_setCell _ _ _ _ (fun e => hk (by rw [e]))⟩
theorem Own.setCell_ne {TI : TypeId} {w0 w : World} {v : Value} {l : List Int} (h : Own TI w0 w v l) {p : Addr} (hp : v.ownBlock ≠ some p.block) (u : Value) : Own TI w0 (w.setCell p u) v l :=
  h.kept (grown_setCell w p u) (Or.inr hp)
theorem Own.ne_of {TI : TypeId} {w0 w : World} {v : Value} {l : List Int} (h : Own TI w0 w v l) {b : Nat} (hb : b < w0.heap.size ∨ w.heap.size ≤ b) : v.ownBlock ≠ some b := fun e => by
  have := h.blk b e; omega
/-- a row of another type lies in another block -/
theorem Own.ne_blk {TI T : TypeId} {w0 w : World} {v : Value} {l : List Int} (h : Own TI w0 w v l) {g : Nat} {cs : Array Value} (hB : Blk w g T cs) (hT : T ≠ TI) : v.ownBlock ≠ some g := fun e => by
  obtain ⟨h1, h2⟩ := h
  rcases h1.2 with ⟨rfl, _⟩ | ⟨g', cap, cur, rfl, _, hh, _⟩
  · cases e
  · simp [Value.ownBlock] at e
    subst e
    have hB' : w.heap[g']? = some (.cells cs T (0, 0)) := hB
    rw [hB'] at hh
    simp at hh
    exact hT hh.2
end Go.Zz

/- Regions that draw their order, walked by hand: an operation is taken first, be its guard on or off. -/
namespace Go.Zz
open Go

theorem takeOn {P : Program} {ops : Array Oper} {Q : Exit → Act → World → Prop} {md : Region.Mode} {S : World → Prop} {i : Nat} {oi : Oper} {v : Value} {fuel : Nat} {listed : Array Bool} {a : Act} {w : World}
    (hr : (Region.ready md ops listed).contains i = true) (hi : ops[i]? = some oi) (hw : Region.wanted oi (yielded ops a.tmps) = true) (hf : Region.free md ops listed i = true) (hs : Region.noSelect ops = true)
    (hQ : ∀ c a w, Q (.panic c) (a.put oi.dst v) w → Q (.panic c) a w) (hy : ∀ w, S w → (execOp a.eval oi).run P w = .ok (.value v) w) (hS : S w)
    (h : wpAnyH P md ops Q S fuel (listed.setIfInBounds i true) (a.put oi.dst v) w) : wpAnyH P md ops Q S (fuel + 1) listed a w :=
  wpAnyH_take hi hs hf hr hQ (Or.inl ⟨hw, hy⟩) hS h
theorem takeOff {P : Program} {ops : Array Oper} {Q : Exit → Act → World → Prop} {md : Region.Mode} {S : World → Prop} {i : Nat} {oi : Oper} {fuel : Nat} {listed : Array Bool} {a : Act} {w : World}
    (hr : (Region.ready md ops listed).contains i = true) (hi : ops[i]? = some oi) (hw : Region.wanted oi (yielded ops a.tmps) = false) (hf : Region.free md ops listed i = true) (hs : Region.noSelect ops = true)
    (hQ : ∀ c a w, Q (.panic c) (a.put oi.dst undef) w → Q (.panic c) a w) (hS : S w)
    (h : wpAnyH P md ops Q S fuel (listed.setIfInBounds i true) (a.put oi.dst undef) w) : wpAnyH P md ops Q S (fuel + 1) listed a w :=
  wpAnyH_take hi hs hf hr hQ (Or.inr ⟨hw, rfl⟩) hS h
/-- one operation alone may come up -/
theorem takeOne {P : Program} {ops : Array Oper} {Q : Exit → Act → World → Prop} {md : Region.Mode} {S : World → Prop} {i : Nat} {oi : Oper} {fuel : Nat} {listed : Array Bool} {a : Act} {w : World}
    (hr : Region.ready md ops listed = [i]) (hi : ops[i]? = some oi) (hw : Region.wanted oi (yielded ops a.tmps) = true)
    (h : ∀ K' : Act → World → Prop, Shut (∀ a w, S w → (S w → wpAnyH P md ops Q S fuel (listed.setIfInBounds i true) a w) → K' a w) → Oper.wp P oi a w K' Q) : wpAnyH P md ops Q S (fuel + 1) listed a w :=
  wpAnyH_ready hr (by simp) (AllReadyH.cons hi (fun K hK => by rw [if_pos hw]; exact h K hK) AllReadyH.nil)
end Go.Zz
