/- Elements that are added to kept counts and removed: the program. -/
import Derived.Test.YtgjomoedgmofbaaGr9
import Derived.Test.YtgjomoedgmofbaaGr7
import Derived.Deep.DeepCutAuto
import Derived.StillTailTactics
namespace Go.Zz
open Go.RowKit Go.Proofs
set_option maxHeartbeats 1000000
set_option maxRecDepth 20000

def kvL (b : Bool) (l : List Int) : List Int := if b then l else []
def kvN (b : Bool) (s : Nat) : Int := if b then (s : Int) else 0
def kvM (b : Bool) (l : List Int) (s : Nat) : List Int := if b then tabN l s s else []
theorem kv_no {b : Bool} (h : b = false) (l : List Int) (s : Nat) : kvL b l = [] ∧ kvN b s = 0 ∧ kvM b l s = [] := by subst h; exact ⟨rfl, rfl, rfl⟩
theorem kv_yes {b : Bool} (h : b = true) (l : List Int) (s : Nat) : kvL b l = l ∧ kvN b s = (s : Int) ∧ kvM b l s = tabN l s s := by subst h; exact ⟨rfl, rfl, rfl⟩
def adB (l : List Int) (n : Int) (m : List Int) (x : Int) : Bool := keptB l n m && hasB l x && !n.toNat.testBit x.toNat
def rmB (l : List Int) (n : Int) (m : List Int) (x : Int) : Bool := keptB l n m && hasB l x && n.toNat.testBit x.toNat
def adS (n x : Int) : Nat := n.toNat ||| 2 ^ x.toNat
def rmS (n x : Int) : Nat := andN n.toNat (2 ^ x.toNat)
theorem OwnK2.setCell_below {w0 w : World} {c : Value} {l m : List Int} {n : Int} (h : OwnK2 w0 w c l n m) {p : Addr} (hp : p.block < w0.heap.size) (x : Value) : OwnK2 w0 (w.setCell p x) c l n m := by
  obtain ⟨v, u, rfl, h1, h2, h3⟩ := h; exact ⟨v, u, rfl, h1.setCell_below hp x, h2.setCell_below hp x, h3⟩
theorem NewKept_yes (v : Value) (l : List Int) (s : Nat) (w : World) (h : Ints w v l) (hs : isSetB l s = true) :
    Calls Try.prog 39 #[.agg #[v], .int .i64 s] w fun e w' => ∃ ao co ap cp, e = .returned (.tuple #[.agg #[.slice ao l.length co, .int .i64 s, .slice ap (tabN l s s).length cp], .bool true]) ∧ OwnK2 w w' (.agg #[.slice ao l.length co, .int .i64 s, .slice ap (tabN l s s).length cp]) l s (tabN l s s) ∧ Ext w w' :=
  (NewKept_any v l s w h).mono fun e w' ⟨c, he, hK, hE⟩ => by
    rw [(nk_yes hs).1, (nk_yes hs).2, tabF_N (by rw [hs]; rfl)] at hK
    have hK' := hK
    obtain ⟨v1, u1, rfl, h1, h2, -⟩ := hK
    obtain ⟨ao, co, rfl, -⟩ := h1.shape
    obtain ⟨ap, cp, rfl, -⟩ := h2.shape
    exact ⟨ao, co, ap, cp, by rw [he, hs], hK', hE⟩
theorem or_lt {l : List Int} {a x : Nat} (ha : a < 2 ^ ord l) (hx : x < ord l) : a ||| 2 ^ x < 2 ^ ord l := Nat.or_lt_two_pow ha (Nat.pow_lt_pow_right (by omega) hx)

theorem AddTo_any (c : Value) (l m : List Int) (n x : Int) (w : World) (h : IsK w c l n m) :
    Calls Try.prog 36 #[c, .int .i64 x] w fun e w' => ∃ d, e = .returned (.tuple #[d, .bool (adB l n m x)]) ∧ OwnK2 w w' d (kvL (adB l n m x) l) (kvN (adB l n m x) (adS n x)) (kvM (adB l n m x) l (adS n x)) ∧ Ext w w' := by
  obtain ⟨v, u, rfl, hv, hu⟩ := h
  obtain ⟨wb, hwb⟩ : ∃ wb, wb = w.alloc (.cells #[v, .int .i64 n, u] 48) := ⟨_, rfl⟩
  have hE0 : Ext w wb := by rw [hwb]; exact (Ext.refl _).alloc _
  have B0 : Blk wb w.heap.size 48 #[v, .int .i64 n, u] := by rw [hwb]; exact Blk.new _ _ _
  have b0 : ∀ W, Ext wb W → W.cell? ⟨w.heap.size, 0, none⟩ = some v := fun W hW => (B0.ext hW).cell (i := 0) rfl
  have b1 : ∀ W, Ext wb W → W.cell? ⟨w.heap.size, 1, none⟩ = some (.int .i64 n) := fun W hW => (B0.ext hW).cell (i := 1) rfl
  have b2 : ∀ W, Ext wb W → W.cell? ⟨w.heap.size, 2, none⟩ = some u := fun W hW => (B0.ext hW).cell (i := 2) rfl
  have hg : ∀ W, Ext wb W → Ints W v l := fun W hW => hv.ext (hE0.trans hW)
  have hg2 : ∀ W, Ext wb W → Ints W u m := fun W hW => hu.ext (hE0.trans hW)
  have hE := Ext.refl wb
  have Hsz : Hid (w.heap.size + 1 = wb.heap.size) := Lib.hid (by rw [hwb]; simp [go_sem])
  have Hwb := Lib.hid hwb
  clear hwb hv hu B0
  obtain ⟨wc, hwc⟩ : ∃ wc, wc = wb.alloc (.cells #[.slice none 0 0, .int .i64 0, .slice none 0 0] 48) := ⟨_, rfl⟩
  have hBc : Blk wc wb.heap.size 48 #[.slice none 0 0, .int .i64 0, .slice none 0 0] := by rw [hwc]; exact Blk.new _ _ _
  have hRc : Res wc wb.heap.size 3 := hBc.res (by simp)
  have hAc : Ext wb wc := by rw [hwc]; exact hE.alloc _
  replace hE := Ext.refl wc
  have Hsz2 : Hid (wb.heap.size + 1 = wc.heap.size) := Lib.hid (by rw [hwc]; simp [go_sem])
  have Hwc := Lib.hid hwc
  clear hwc hBc
  have hwc : wb.heap.size < wc.heap.size := by have := Hsz2.out; omega
  have c0 : ∀ W, Ext wc W → W.cell? ⟨w.heap.size, 0, none⟩ = some v := fun W hW => b0 W (hAc.trans hW)
  have c1 : ∀ W, Ext wc W → W.cell? ⟨w.heap.size, 1, none⟩ = some (.int .i64 n) := fun W hW => b1 W (hAc.trans hW)
  have c2 : ∀ W, Ext wc W → W.cell? ⟨w.heap.size, 2, none⟩ = some u := fun W hW => b2 W (hAc.trans hW)
  have hgc : ∀ W, Ext wc W → Ints W v l := fun W hW => hg W (hAc.trans hW)
  have hg2c : ∀ W, Ext wc W → Ints W u m := fun W hW => hg2 W (hAc.trans hW)
  have hrr : ∀ W, Ext wc W → ∀ i, i < 3 → W.cell? ⟨wb.heap.size, i, none⟩ = some (At W ⟨wb.heap.size, i, none⟩) ∧ W.frozen? ⟨wb.heap.size, i, none⟩ = false := fun W hW => hRc.ext hW
  cases hk : keptB l n m
  · have Hv : Hid (adB l n m x = false) := Lib.hid (by unfold adB; rw [hk]; rfl)
    have hr := hrr
    go_enter Try.func36, Try.ntmps36
    go_wp2_with fail
    rw [← Hwb.out, ← Hwc.out]; rw [Hsz.out]
    go_wp2_with (first | (go_at_call 41; refine (IsKept_val _ _ _ _ _ (⟨_, _, rfl, hgc _ hE, hg2c _ hE⟩) (hk)).mono ?_; rintro e w' ⟨rfl, hE'⟩; replace hE := hE.trans hE'; clear hE'))
    exact bodyPost_ret (v := .tuple #[.agg #[.slice none 0 0, .int .i64 0, .slice none 0 0], .bool false]) (by simp [results, Try.results36, go_sem, hrr _ hE]) rfl ⟨_, by rw [Hv.out], by rw [(kv_no Hv.out l 0).1, (kv_no Hv.out l _).2.1, (kv_no Hv.out l _).2.2]; exact OwnK2.none _ _, hE0.trans (Ext.setCell (Ext.setCell (Ext.setCell (hAc.trans hE) (Nat.le_refl _) _) (Nat.le_refl _) _) (Nat.le_refl _) _)⟩
  · cases hx : hasB l x
    · have Hv : Hid (adB l n m x = false) := Lib.hid (by unfold adB; rw [hx]; simp)
      go_enter Try.func36, Try.ntmps36
      go_wp2_with fail
      rw [← Hwb.out, ← Hwc.out]; rw [Hsz.out]
      go_wp2_with (first | (go_at_call 41; refine (IsKept_val _ _ _ _ _ (⟨_, _, rfl, hgc _ hE, hg2c _ hE⟩) (hk)).mono ?_; rintro e w' ⟨rfl, hE'⟩; replace hE := hE.trans hE'; clear hE') | (go_at_call 138; refine (has_val _ _ _ _ (hgc _ hE) hx).mono ?_; rintro e w' ⟨rfl, hE'⟩; replace hE := hE.trans hE'; clear hE'))
      exact bodyPost_ret (v := .tuple #[.agg #[.slice none 0 0, .int .i64 0, .slice none 0 0], .bool false]) (by simp [results, Try.results36, go_sem, hrr _ hE]) rfl ⟨_, by rw [Hv.out], by rw [(kv_no Hv.out l 0).1, (kv_no Hv.out l _).2.1, (kv_no Hv.out l _).2.2]; exact OwnK2.none _ _, hE0.trans (Ext.setCell (Ext.setCell (Ext.setCell (hAc.trans hE) (Nat.le_refl _) _) (Nat.le_refl _) _) (Nat.le_refl _) _)⟩
    · have HB : Hid (adB l n m x = !  n.toNat.testBit x.toNat) := Lib.hid (by unfold adB; rw [hk, hx]; rfl)
      obtain ⟨a, rfl, ha1, ha2, hgr, -, hsa⟩ := keptB_nat hk
      obtain ⟨x, rfl, hx2, -⟩ := hasB_nat hx
      have hob := ord_bd hgr
      have HS : Hid (adS (a : Int) (x : Int) = HOr.hOr a (2 ^ x)) := Lib.hid rfl
      have Hgr := Lib.hid hgr
      clear hgr
      cases hb : a.testBit x
      · have Hv : Hid (adB l a m x = true) := Lib.hid (by rw [HB.out]; simp [hb])
        have hs1 := ishl_one (n := x) (by omega)
        obtain ⟨s, hsd⟩ : ∃ s, s = HOr.hOr a (2 ^ x) := ⟨_, rfl⟩; have hsb : s < 2 ^ ord l := (by rw [hsd]; exact or_lt ha1 hx2); have hs2 : ior (a : Int) ((pw x : Nat) : Int) = (s : Int) := (by rw [hsd]; exact ior_pw ha2 (by omega)); rw [← hsd] at HS; clear hsd
        rw [Hv.out, HS.out]
        have hsl : s < 2 ^ 24 := Nat.lt_of_lt_of_le hsb (pow_ord Hgr.out)
        have hss : isSetB l (s : Int) = true := isSetB_of Hgr.out hsb
        rw [(kv_yes rfl l s).1, (kv_yes rfl l s).2.1, (kv_yes rfl l s).2.2]
        go_enter Try.func36, Try.ntmps36
        go_wp2_with fail
        rw [← Hwb.out, ← Hwc.out]; rw [Hsz.out]
        go_wp2_with (first | (go_at_call 41; refine (IsKept_val _ _ _ _ _ (⟨_, _, rfl, hgc _ hE, hg2c _ hE⟩) (hk)).mono ?_; rintro e w' ⟨rfl, hE'⟩; replace hE := hE.trans hE'; clear hE') | (go_at_call 138; refine (has_val _ _ _ _ (hgc _ hE) hx).mono ?_; rintro e w' ⟨rfl, hE'⟩; replace hE := hE.trans hE'; clear hE') | (go_at_call 139; refine (in_val a x ha2 (by omega) _ hb).mono ?_; rintro e w' ⟨rfl, rfl⟩))
        clear hk hx hb
        have hD := hE.drew
        first | (go_region_held3 (fun W => Ext (wb) W ∧ W.cell? ⟨w.heap.size, 0, none⟩ = some v ∧ W.cell? ⟨w.heap.size, 1, none⟩ = some (.int .i64 (a : Int)) ∧ (∀ i, i < 3 → W.cell? ⟨(wb).heap.size, i, none⟩ = some (At W ⟨(wb).heap.size, i, none⟩) ∧ W.frozen? ⟨(wb).heap.size, i, none⟩ = false)) (exact ⟨(by (repeat (refine Ext.setCell ?_ (Nat.le_refl _) _)); exact Ext.trans hAc (by repeat (first | assumption | exact Ext.refl _ | (apply And.left; assumption) | apply Ext.drew | apply Ext.alloc))), b0 _ (by (repeat (refine Ext.setCell ?_ (Nat.le_refl _) _)); exact Ext.trans hAc (by repeat (first | assumption | exact Ext.refl _ | (apply And.left; assumption) | apply Ext.drew | apply Ext.alloc))), b1 _ (by (repeat (refine Ext.setCell ?_ (Nat.le_refl _) _)); exact Ext.trans hAc (by repeat (first | assumption | exact Ext.refl _ | (apply And.left; assumption) | apply Ext.drew | apply Ext.alloc))), (by (repeat (refine Res.setCell ?_ _ _)); exact Res.ext hRc (by repeat (first | assumption | exact Ext.refl _ | (apply And.left; assumption) | apply Ext.drew | apply Ext.alloc)))⟩) (first | (go_at_call 39; ((with_reducible refine Calls.mono (NewKept_yes _ _ s _ (hgc _ (by repeat (first | assumption | exact Ext.refl _ | (apply And.left; assumption) | apply Ext.drew | apply Ext.alloc))) hss) ?_); rintro e wH0 ⟨ao, co, ap, cp, rfl, hK1, hX0⟩; have hH0 := Ext.trans (a := wc) (by repeat (first | assumption | exact Ext.refl _ | (apply And.left; assumption) | apply Ext.drew | apply Ext.alloc)) hX0)))) | (fail "the region with a result")
        go_wp2_with fail
        have hK2 := hK1.mono (show Ext wc _ by repeat (first | assumption | exact Ext.refl _ | (apply And.left; assumption) | apply Ext.drew | apply Ext.alloc))
        exact bodyPost_ret (v := .tuple #[.agg #[.slice ao l.length co, .int .i64 s, .slice ap (tabN l s s).length cp], .bool true]) (by simp [results, Try.results36, go_sem, hrr _ hH0]) rfl ⟨_, rfl, (((hK2.setCell_below hwc _).setCell_below hwc _).setCell_below hwc _).mono (hE0.trans hAc), hE0.trans (Ext.setCell (Ext.setCell (Ext.setCell (hAc.trans hH0) (Nat.le_refl _) _) (Nat.le_refl _) _) (Nat.le_refl _) _)⟩
      · have Hv : Hid (adB l a m x = false) := Lib.hid (by rw [HB.out]; simp [hb])
        go_enter Try.func36, Try.ntmps36
        go_wp2_with fail
        rw [← Hwb.out, ← Hwc.out]; rw [Hsz.out]
        go_wp2_with (first | (go_at_call 41; refine (IsKept_val _ _ _ _ _ (⟨_, _, rfl, hgc _ hE, hg2c _ hE⟩) (hk)).mono ?_; rintro e w' ⟨rfl, hE'⟩; replace hE := hE.trans hE'; clear hE') | (go_at_call 138; refine (has_val _ _ _ _ (hgc _ hE) hx).mono ?_; rintro e w' ⟨rfl, hE'⟩; replace hE := hE.trans hE'; clear hE') | (go_at_call 139; refine (in_val a x ha2 (by omega) _ hb).mono ?_; rintro e w' ⟨rfl, rfl⟩))
        exact bodyPost_ret (v := .tuple #[.agg #[.slice none 0 0, .int .i64 0, .slice none 0 0], .bool false]) (by simp [results, Try.results36, go_sem, hrr _ hE]) rfl ⟨_, by rw [Hv.out], by rw [(kv_no Hv.out l 0).1, (kv_no Hv.out l _).2.1, (kv_no Hv.out l _).2.2]; exact OwnK2.none _ _, hE0.trans (Ext.setCell (Ext.setCell (Ext.setCell (hAc.trans hE) (Nat.le_refl _) _) (Nat.le_refl _) _) (Nat.le_refl _) _)⟩
theorem RemoveFrom_any (c : Value) (l m : List Int) (n x : Int) (w : World) (h : IsK w c l n m) :
    Calls Try.prog 40 #[c, .int .i64 x] w fun e w' => ∃ d, e = .returned (.tuple #[d, .bool (rmB l n m x)]) ∧ OwnK2 w w' d (kvL (rmB l n m x) l) (kvN (rmB l n m x) (rmS n x)) (kvM (rmB l n m x) l (rmS n x)) ∧ Ext w w' := by
  obtain ⟨v, u, rfl, hv, hu⟩ := h
  obtain ⟨wb, hwb⟩ : ∃ wb, wb = w.alloc (.cells #[v, .int .i64 n, u] 48) := ⟨_, rfl⟩
  have hE0 : Ext w wb := by rw [hwb]; exact (Ext.refl _).alloc _
  have B0 : Blk wb w.heap.size 48 #[v, .int .i64 n, u] := by rw [hwb]; exact Blk.new _ _ _
  have b0 : ∀ W, Ext wb W → W.cell? ⟨w.heap.size, 0, none⟩ = some v := fun W hW => (B0.ext hW).cell (i := 0) rfl
  have b1 : ∀ W, Ext wb W → W.cell? ⟨w.heap.size, 1, none⟩ = some (.int .i64 n) := fun W hW => (B0.ext hW).cell (i := 1) rfl
  have b2 : ∀ W, Ext wb W → W.cell? ⟨w.heap.size, 2, none⟩ = some u := fun W hW => (B0.ext hW).cell (i := 2) rfl
  have hg : ∀ W, Ext wb W → Ints W v l := fun W hW => hv.ext (hE0.trans hW)
  have hg2 : ∀ W, Ext wb W → Ints W u m := fun W hW => hu.ext (hE0.trans hW)
  have hE := Ext.refl wb
  have Hsz : Hid (w.heap.size + 1 = wb.heap.size) := Lib.hid (by rw [hwb]; simp [go_sem])
  have Hwb := Lib.hid hwb
  clear hwb hv hu B0
  obtain ⟨wc, hwc⟩ : ∃ wc, wc = wb.alloc (.cells #[.slice none 0 0, .int .i64 0, .slice none 0 0] 48) := ⟨_, rfl⟩
  have hBc : Blk wc wb.heap.size 48 #[.slice none 0 0, .int .i64 0, .slice none 0 0] := by rw [hwc]; exact Blk.new _ _ _
  have hRc : Res wc wb.heap.size 3 := hBc.res (by simp)
  have hAc : Ext wb wc := by rw [hwc]; exact hE.alloc _
  replace hE := Ext.refl wc
  have Hsz2 : Hid (wb.heap.size + 1 = wc.heap.size) := Lib.hid (by rw [hwc]; simp [go_sem])
  have Hwc := Lib.hid hwc
  clear hwc hBc
  have hwc : wb.heap.size < wc.heap.size := by have := Hsz2.out; omega
  have c0 : ∀ W, Ext wc W → W.cell? ⟨w.heap.size, 0, none⟩ = some v := fun W hW => b0 W (hAc.trans hW)
  have c1 : ∀ W, Ext wc W → W.cell? ⟨w.heap.size, 1, none⟩ = some (.int .i64 n) := fun W hW => b1 W (hAc.trans hW)
  have c2 : ∀ W, Ext wc W → W.cell? ⟨w.heap.size, 2, none⟩ = some u := fun W hW => b2 W (hAc.trans hW)
  have hgc : ∀ W, Ext wc W → Ints W v l := fun W hW => hg W (hAc.trans hW)
  have hg2c : ∀ W, Ext wc W → Ints W u m := fun W hW => hg2 W (hAc.trans hW)
  have hrr : ∀ W, Ext wc W → ∀ i, i < 3 → W.cell? ⟨wb.heap.size, i, none⟩ = some (At W ⟨wb.heap.size, i, none⟩) ∧ W.frozen? ⟨wb.heap.size, i, none⟩ = false := fun W hW => hRc.ext hW
  cases hk : keptB l n m
  · have Hv : Hid (rmB l n m x = false) := Lib.hid (by unfold rmB; rw [hk]; rfl)
    have hr := hrr
    go_enter Try.func40, Try.ntmps40
    go_wp2_with fail
    rw [← Hwb.out, ← Hwc.out]; rw [Hsz.out]
    go_wp2_with (first | (go_at_call 41; refine (IsKept_val _ _ _ _ _ (⟨_, _, rfl, hgc _ hE, hg2c _ hE⟩) (hk)).mono ?_; rintro e w' ⟨rfl, hE'⟩; replace hE := hE.trans hE'; clear hE'))
    exact bodyPost_ret (v := .tuple #[.agg #[.slice none 0 0, .int .i64 0, .slice none 0 0], .bool false]) (by simp [results, Try.results40, go_sem, hrr _ hE]) rfl ⟨_, by rw [Hv.out], by rw [(kv_no Hv.out l 0).1, (kv_no Hv.out l _).2.1, (kv_no Hv.out l _).2.2]; exact OwnK2.none _ _, hE0.trans (Ext.setCell (Ext.setCell (Ext.setCell (hAc.trans hE) (Nat.le_refl _) _) (Nat.le_refl _) _) (Nat.le_refl _) _)⟩
  · cases hx : hasB l x
    · have Hv : Hid (rmB l n m x = false) := Lib.hid (by unfold rmB; rw [hx]; simp)
      go_enter Try.func40, Try.ntmps40
      go_wp2_with fail
      rw [← Hwb.out, ← Hwc.out]; rw [Hsz.out]
      go_wp2_with (first | (go_at_call 41; refine (IsKept_val _ _ _ _ _ (⟨_, _, rfl, hgc _ hE, hg2c _ hE⟩) (hk)).mono ?_; rintro e w' ⟨rfl, hE'⟩; replace hE := hE.trans hE'; clear hE') | (go_at_call 138; refine (has_val _ _ _ _ (hgc _ hE) hx).mono ?_; rintro e w' ⟨rfl, hE'⟩; replace hE := hE.trans hE'; clear hE'))
      exact bodyPost_ret (v := .tuple #[.agg #[.slice none 0 0, .int .i64 0, .slice none 0 0], .bool false]) (by simp [results, Try.results40, go_sem, hrr _ hE]) rfl ⟨_, by rw [Hv.out], by rw [(kv_no Hv.out l 0).1, (kv_no Hv.out l _).2.1, (kv_no Hv.out l _).2.2]; exact OwnK2.none _ _, hE0.trans (Ext.setCell (Ext.setCell (Ext.setCell (hAc.trans hE) (Nat.le_refl _) _) (Nat.le_refl _) _) (Nat.le_refl _) _)⟩
    · have HB : Hid (rmB l n m x =   n.toNat.testBit x.toNat) := Lib.hid (by unfold rmB; rw [hk, hx]; rfl)
      obtain ⟨a, rfl, ha1, ha2, hgr, -, hsa⟩ := keptB_nat hk
      obtain ⟨x, rfl, hx2, -⟩ := hasB_nat hx
      have hob := ord_bd hgr
      have HS : Hid (rmS (a : Int) (x : Int) = andN a (2 ^ x)) := Lib.hid rfl
      have Hgr := Lib.hid hgr
      clear hgr
      cases hb : a.testBit x
      · have Hv : Hid (rmB l a m x = false) := Lib.hid (by rw [HB.out]; simp [hb])
        go_enter Try.func40, Try.ntmps40
        go_wp2_with fail
        rw [← Hwb.out, ← Hwc.out]; rw [Hsz.out]
        go_wp2_with (first | (go_at_call 41; refine (IsKept_val _ _ _ _ _ (⟨_, _, rfl, hgc _ hE, hg2c _ hE⟩) (hk)).mono ?_; rintro e w' ⟨rfl, hE'⟩; replace hE := hE.trans hE'; clear hE') | (go_at_call 138; refine (has_val _ _ _ _ (hgc _ hE) hx).mono ?_; rintro e w' ⟨rfl, hE'⟩; replace hE := hE.trans hE'; clear hE') | (go_at_call 139; refine (in_val a x ha2 (by omega) _ hb).mono ?_; rintro e w' ⟨rfl, rfl⟩))
        exact bodyPost_ret (v := .tuple #[.agg #[.slice none 0 0, .int .i64 0, .slice none 0 0], .bool false]) (by simp [results, Try.results40, go_sem, hrr _ hE]) rfl ⟨_, by rw [Hv.out], by rw [(kv_no Hv.out l 0).1, (kv_no Hv.out l _).2.1, (kv_no Hv.out l _).2.2]; exact OwnK2.none _ _, hE0.trans (Ext.setCell (Ext.setCell (Ext.setCell (hAc.trans hE) (Nat.le_refl _) _) (Nat.le_refl _) _) (Nat.le_refl _) _)⟩
      · have Hv : Hid (rmB l a m x = true) := Lib.hid (by rw [HB.out]; simp [hb])
        have hs1 := ishl_one (n := x) (by omega)
        obtain ⟨s, hsd⟩ : ∃ s, s = andN a (2 ^ x) := ⟨_, rfl⟩; have hsb : s < 2 ^ ord l := (by rw [hsd]; exact andN_lt ha1); have hp24 := pw_le (show x ≤ 24 by omega); have hs2 : iandn (a : Int) ((pw x : Nat) : Int) = (s : Int) := (by rw [hsd]; exact iandn_nat (by omega) (by omega)); rw [← hsd] at HS; clear hsd
        rw [Hv.out, HS.out]
        have hsl : s < 2 ^ 24 := Nat.lt_of_lt_of_le hsb (pow_ord Hgr.out)
        have hss : isSetB l (s : Int) = true := isSetB_of Hgr.out hsb
        rw [(kv_yes rfl l s).1, (kv_yes rfl l s).2.1, (kv_yes rfl l s).2.2]
        go_enter Try.func40, Try.ntmps40
        go_wp2_with fail
        rw [← Hwb.out, ← Hwc.out]; rw [Hsz.out]
        go_wp2_with (first | (go_at_call 41; refine (IsKept_val _ _ _ _ _ (⟨_, _, rfl, hgc _ hE, hg2c _ hE⟩) (hk)).mono ?_; rintro e w' ⟨rfl, hE'⟩; replace hE := hE.trans hE'; clear hE') | (go_at_call 138; refine (has_val _ _ _ _ (hgc _ hE) hx).mono ?_; rintro e w' ⟨rfl, hE'⟩; replace hE := hE.trans hE'; clear hE') | (go_at_call 139; refine (in_val a x ha2 (by omega) _ hb).mono ?_; rintro e w' ⟨rfl, rfl⟩))
        clear hk hx hb
        have hD := hE.drew
        first | (go_region_held3 (fun W => Ext (wb) W ∧ W.cell? ⟨w.heap.size, 0, none⟩ = some v ∧ W.cell? ⟨w.heap.size, 1, none⟩ = some (.int .i64 (a : Int)) ∧ (∀ i, i < 3 → W.cell? ⟨(wb).heap.size, i, none⟩ = some (At W ⟨(wb).heap.size, i, none⟩) ∧ W.frozen? ⟨(wb).heap.size, i, none⟩ = false)) (exact ⟨(by (repeat (refine Ext.setCell ?_ (Nat.le_refl _) _)); exact Ext.trans hAc (by repeat (first | assumption | exact Ext.refl _ | (apply And.left; assumption) | apply Ext.drew | apply Ext.alloc))), b0 _ (by (repeat (refine Ext.setCell ?_ (Nat.le_refl _) _)); exact Ext.trans hAc (by repeat (first | assumption | exact Ext.refl _ | (apply And.left; assumption) | apply Ext.drew | apply Ext.alloc))), b1 _ (by (repeat (refine Ext.setCell ?_ (Nat.le_refl _) _)); exact Ext.trans hAc (by repeat (first | assumption | exact Ext.refl _ | (apply And.left; assumption) | apply Ext.drew | apply Ext.alloc))), (by (repeat (refine Res.setCell ?_ _ _)); exact Res.ext hRc (by repeat (first | assumption | exact Ext.refl _ | (apply And.left; assumption) | apply Ext.drew | apply Ext.alloc)))⟩) (first | (go_at_call 39; ((with_reducible refine Calls.mono (NewKept_yes _ _ s _ (hgc _ (by repeat (first | assumption | exact Ext.refl _ | (apply And.left; assumption) | apply Ext.drew | apply Ext.alloc))) hss) ?_); rintro e wH0 ⟨ao, co, ap, cp, rfl, hK1, hX0⟩; have hH0 := Ext.trans (a := wc) (by repeat (first | assumption | exact Ext.refl _ | (apply And.left; assumption) | apply Ext.drew | apply Ext.alloc)) hX0)))) | (fail "the region with a result")
        go_wp2_with fail
        have hK2 := hK1.mono (show Ext wc _ by repeat (first | assumption | exact Ext.refl _ | (apply And.left; assumption) | apply Ext.drew | apply Ext.alloc))
        exact bodyPost_ret (v := .tuple #[.agg #[.slice ao l.length co, .int .i64 s, .slice ap (tabN l s s).length cp], .bool true]) (by simp [results, Try.results40, go_sem, hrr _ hH0]) rfl ⟨_, rfl, (((hK2.setCell_below hwc _).setCell_below hwc _).setCell_below hwc _).mono (hE0.trans hAc), hE0.trans (Ext.setCell (Ext.setCell (Ext.setCell (hAc.trans hH0) (Nat.le_refl _) _) (Nat.le_refl _) _) (Nat.le_refl _) _)⟩
end Go.Zz

/- Steps of regions that draw their order: a struct variable is made, a struct is stored into it. -/
namespace Go.Zz
open Go.RowKit Go.Proofs
set_option maxHeartbeats 2000000
set_option maxRecDepth 20000

theorem step_allocK {ops : Array Oper} {o : Oper} {a : Act} {w : World} {K : Act → World → Prop} {Q : Exit → Act → World → Prop} {E : Prop} (hg : o.guard = none) (hop : o.op = Op.alloc 48)
    (hK : ∀ g w', Blk w' g 48 #[.slice none 0 0, .int .i64 0, .slice none 0 0] → w.heap.size ≤ g → Ext w w' → K (a.put o.dst (.pointer (some ⟨g, 0, none⟩))) w') :
    if Region.wanted o (yielded ops a.tmps) = true then Oper.wp Try.prog o a w K Q else E := by
  have hw : Region.wanted o (yielded ops a.tmps) = true := by simp [Region.wanted, hg]
  rw [if_pos hw]
  have := hK w.heap.size (w.alloc (.cells #[.slice none 0 0, .int .i64 0, .slice none 0 0] 48)) (Blk.new _ _ _) (Nat.le_refl _) ((Ext.refl w).alloc _)
  unfold Oper.wp
  simp [execOp, hop, Result.andThen, go_sem, Instr.alloc]
  exact this
theorem step_storeK {ops : Array Oper} {o : Oper} {a : Act} {w : World} {K : Act → World → Prop} {Q : Exit → Act → World → Prop} {E : Prop} (hg : o.guard = none) (p x : Operand) (hop : o.op = Op.store 48 p x) (hd : o.dst = none)
    (g : Nat) (ao ap : Option Addr) (n m c d : Nat) (z : Int) (hp : a.eval p = .pointer (some ⟨g, 0, none⟩)) (hx : a.eval x = .agg #[.slice ao n c, .int .i64 z, .slice ap m d]) (hB : Blk w g 48 #[.slice none 0 0, .int .i64 0, .slice none 0 0])
    (hK : Blk (((w.setCell ⟨g, 0, none⟩ (.slice ao n c)).setCell ⟨g, 1, none⟩ (.int .i64 z)).setCell ⟨g, 2, none⟩ (.slice ap m d)) g 48 #[.slice ao n c, .int .i64 z, .slice ap m d] → K a (((w.setCell ⟨g, 0, none⟩ (.slice ao n c)).setCell ⟨g, 1, none⟩ (.int .i64 z)).setCell ⟨g, 2, none⟩ (.slice ap m d))) :
    if Region.wanted o (yielded ops a.tmps) = true then Oper.wp Try.prog o a w K Q else E := by
  have hw : Region.wanted o (yielded ops a.tmps) = true := by simp [Region.wanted, hg]
  rw [if_pos hw]
  have h0 := hB.cell (i := 0) (v := .slice none 0 0) rfl
  have h1 := hB.cell (i := 1) (v := .int .i64 0) rfl
  have h2 := hB.cell (i := 2) (v := .slice none 0 0) rfl
  have f0 := hB.free 0
  have f1 := hB.free 1
  have f2 := hB.free 2
  have := hK (((hB.set 0 _).set 1 _).set 2 _)
  unfold Oper.wp
  simp only [execOp, hop, hp, hx]
  simp [Result.andThen, go_sem, h0, h1, h2, f0, f1, f2, hd]
  simpa [Act.put, hd] using this
/-- append([]int{}, xs...) as a step of a region that draws its order; where its block lies -/
theorem step_copy2 {P : Program} {ops : Array Oper} {o : Oper} {a : Act} {w : World} {K : Act → World → Prop} {Q : Exit → Act → World → Prop} {E : Prop} {T TI : TypeId} (hT : IntSl P T TI)
    (hg : o.guard = none) (s x : Operand) (hop : o.op = Op.call { callee := Callee.builtin Builtin.append, args := #[s, x], argTypes := #[T, T] })
    (g : Nat) (u : Value) (m : List Int) (hs : a.eval s = .slice (some ⟨g, 0, none⟩) 0 0) (hx : a.eval x = u) (hB : Blk w g TI #[]) (hI : Ints w u m) (w0 : World) (h0 : w0.heap.size ≤ g) (hE : Ext w0 w)
    (hK : ∀ ao c w', Own TI w0 w' (.slice ao m.length c) m → (∀ k, (Value.slice ao m.length c).ownBlock = some k → k = g ∨ w.heap.size ≤ k) → Ext w w' → K (a.put o.dst (.slice ao m.length c)) w') :
    if Region.wanted o (yielded ops a.tmps) = true then Oper.wp P o a w K Q else E := by
  have hw : Region.wanted o (yielded ops a.tmps) = true := by simp [Region.wanted, hg]
  rw [if_pos hw]
  obtain ⟨i, hi, hz, hs1, hby⟩ := hT.info
  have hown : w.ownsRow w0.heap.size TI 1 (.slice (some ⟨g, 0, none⟩) 0 0) 0 [] := by
    have hB' : w.heap[g]? = some (.cells #[] TI (0, 0)) := hB
    exact ⟨by simp, Or.inr ⟨g, 0, #[], rfl, h0, hB', Nat.le_refl _, Nat.zero_le _, by simp, by simp⟩⟩
  obtain ⟨ao, c, rfl, hmc, hml, hc⟩ := hI
  have key : m = [] → Oper.wp P o a w K Q := by
    intro hm
    subst hm
    have hrun2 : (Builtin.append_ #[T, T] o.type #[.slice (some ⟨g, 0, none⟩) 0 0, .slice ao 0 c]).run P w = .ok (.slice (some ⟨g, 0, none⟩) 0 0) w := by
      have hrun := run_append_owned_none (P := P) w w0.heap.size T o.type TI i 1 hT.und hi (.slice (some ⟨g, 0, none⟩) 0 0) 0 [] hown
      rw [← hrun]; cases ao <;> simp [Builtin.append_, run_underlying hT.und, sizeOf, typeInfo, hi, Builtin.lenOf, Builtin.firstCells, go_sem]
    unfold Oper.wp
    simp [execOp, hop, resolve, invoke, builtin, hs, hx, hrun2, Result.andThen]
    exact hK (some ⟨g, 0, none⟩) 0 _ ⟨by simpa using hown, by simp⟩ (fun k hk => by simp [Value.ownBlock] at hk; exact Or.inl hk.symm) (Ext.refl w)
  by_cases hm : m = []
  · exact key hm
  · have hpos : 0 < m.length := Nat.pos_of_ne_zero (fun e => hm (List.eq_nil_of_length_eq_zero e))
    cases ao with
    | none => obtain ⟨_, h, _⟩ := hc 0 hpos; cases h
    | some ad =>
      obtain ⟨v', w', hrun, r1, r2⟩ := run_append_arg_grows (P := P) (w := w) T o.type TI i (.int .i64 0) 1 8 hT.und hi hz hs1 hby rfl (by omega) ⟨g, 0, none⟩ 0 0 [] (by simp) (by simp) ad m.length c (m.map (Value.int .i64)) (by simp) (by
        intro j u hu
        have hj : j < m.length := by have := (List.getElem?_eq_some_iff.1 hu).1; simpa using this
        obtain ⟨a', ha', hc'⟩ := hc j hj
        cases ha'
        rw [hc', ← hu, nth_get _ _ hj]; simp [hj]) (by omega) (by unfold maxLen; omega) (by omega)
      unfold Oper.wp
      simp [execOp, hop, resolve, invoke, builtin, hs, hx, hrun, Result.andThen]
      have hO' : Own TI w w' v' m := ⟨by simpa using r1, hml⟩
      obtain ⟨ao', c', rfl, -⟩ := hO'.shape
      exact hK ao' c' w' (hO'.mono hE) (fun k hk => Or.inr (hO'.blk k hk).1) ((Ext.refl w).grown r2 (by simp))
theorem step_build {ops : Array Oper} {o : Oper} {a : Act} {w : World} {K : Act → World → Prop} {Q : Exit → Act → World → Prop} {E : Prop} (hg : o.guard = none) (hop : o.op = Op.buildSlice 24 0 #[])
    (hK : ∀ g w', Blk w' g 3 #[] → w.heap.size ≤ g → Ext w w' → K (a.put o.dst (.slice (some ⟨g, 0, none⟩) 0 0)) w') :
    if Region.wanted o (yielded ops a.tmps) = true then Oper.wp Try.prog o a w K Q else E := by
  have hw : Region.wanted o (yielded ops a.tmps) = true := by simp [Region.wanted, hg]
  rw [if_pos hw]
  have := hK w.heap.size (w.alloc (.cells #[] 3)) (Blk.new _ _ _) (Nat.le_refl _) ((Ext.refl w).alloc _)
  unfold Oper.wp
  simp [execOp, hop, Result.andThen, go_sem]
  exact this
theorem grown_setCell (w : World) (a : Addr) (u : Value) : w.grownBy (w.setCell a u) (some a.block) :=
  ⟨rfl, rfl, rfl, by simp, fun k _ hk => Below.heap_setCell _ _ _ _ (fun e => hk (by rw [e]))⟩
theorem Own.setCell_ne {TI : TypeId} {w0 w : World} {v : Value} {l : List Int} (h : Own TI w0 w v l) {p : Addr} (hp : v.ownBlock ≠ some p.block) (u : Value) : Own TI w0 (w.setCell p u) v l :=
  h.kept (grown_setCell w p u) (Or.inr hp)
theorem Own.ne_of {TI : TypeId} {w0 w : World} {v : Value} {l : List Int} (h : Own TI w0 w v l) {b : Nat} (hb : b < w0.heap.size ∨ w.heap.size ≤ b) : v.ownBlock ≠ some b := fun e => by
  have := h.blk b e; omega
/-- a row of another type lies in another block -/
theorem Own.ne_blk {TI T : TypeId} {w0 w : World} {v : Value} {l : List Int} (h : Own TI w0 w v l) {g : Nat} {cs : Array Value} (hB : Blk w g T cs) (hT : T ≠ TI) : v.ownBlock ≠ some g := fun e => by
  obtain ⟨h1, h2⟩ := h
  rcases h1.2 with ⟨rfl, _⟩ | ⟨g', cap, cur, rfl, _, hh, _⟩
  · cases e
  · simp [Value.ownBlock] at e
    subst e
    have hB' : w.heap[g']? = some (.cells cs T (0, 0)) := hB
    rw [hB'] at hh
    simp at hh
    exact hT hh.2
end Go.Zz

/- Elements that are added to kept counts and removed: the reference. -/
namespace Go.Zz
open Go.RowKit Go.Proofs
set_option maxHeartbeats 4000000
set_option maxRecDepth 20000

/-- what the literal of l30Change leaves -/
def ChgP (w0 : World) (l m : List Int) (a : Nat) (s7 : Value) (wx : World) : Prop :=
  ∃ g ao co ap cp, s7 = .pointer (some ⟨g, 0, none⟩) ∧ w0.heap.size ≤ g ∧ Blk wx g 48 #[.slice ao l.length co, .int .i64 a, .slice ap m.length cp] ∧ Own 3 w0 wx (.slice ao l.length co) l ∧ Own 3 w0 wx (.slice ap m.length cp) m ∧
    (∀ k, (Value.slice ao l.length co).ownBlock = some k → (Value.slice ap m.length cp).ownBlock ≠ some k) ∧ Ext w0 wx
theorem chg_le {l : List Int} (h : isGrp l = true) {x : Nat} {n : Int} (hn : n = 1 ∨ n = -1) {m : List Int} (hml : m.length = ord l) (hbd : ∀ i, 0 ≤ nth m i ∧ nth m i ≤ 576) {L : List Nat} (hL : L.length ≤ 24) (z : Nat) : -48 ≤ nth (chgL l x n m L) z ∧ nth (chgL l x n m L) z ≤ 624 := by
  rw [nth_chgL h x n z L m hml]
  have h1 := hbd z
  have h2 : (L.map (fun y => addF l x y)).count z ≤ 24 := Nat.le_trans List.count_le_length (by simpa using hL)
  rcases hn with rfl | rfl <;> omega
theorem l30Change_any (c : Value) (l m : List Int) (a x : Nat) (n : Int) (w : World) (h : IsK w c l a m) (Hgr : Hid (isGrp l = true)) (ha : a < 2 ^ ord l) (hx : x < ord l) (hml : m.length = ord l) (hn : n = 1 ∨ n = -1) (hbd : ∀ i, 0 ≤ nth m i ∧ nth m i ≤ 576) :
    Calls Try.prog 141 #[c, .int .i64 x, .int .i64 n] w fun e w' => ∃ ao co ap cp, e = .returned (.agg #[.slice ao l.length co, .int .i64 a, .slice ap m.length cp]) ∧ OwnK2 w w' (.agg #[.slice ao l.length co, .int .i64 a, .slice ap m.length cp]) l a (chgF l x n m (elems (andN a (2 ^ x)))) ∧ Ext w w' := by
  obtain ⟨v, u, rfl, hv, hu⟩ := h
  obtain ⟨wb, hwb⟩ : ∃ wb, wb = w.alloc (.cells #[v, .int .i64 a, u] 48) := ⟨_, rfl⟩
  have hE0 : Ext w wb := by rw [hwb]; exact (Ext.refl _).alloc _
  have B0 : Blk wb w.heap.size 48 #[v, .int .i64 a, u] := by rw [hwb]; exact Blk.new _ _ _
  have b0 : ∀ W, Ext wb W → W.cell? ⟨w.heap.size, 0, none⟩ = some v := fun W hW => (B0.ext hW).cell (i := 0) rfl
  have b1 : ∀ W, Ext wb W → W.cell? ⟨w.heap.size, 1, none⟩ = some (.int .i64 a) := fun W hW => (B0.ext hW).cell (i := 1) rfl
  have b2 : ∀ W, Ext wb W → W.cell? ⟨w.heap.size, 2, none⟩ = some u := fun W hW => (B0.ext hW).cell (i := 2) rfl
  have hE := Ext.refl wb
  have Hsz : Hid (w.heap.size + 1 = wb.heap.size) := Lib.hid (by rw [hwb]; simp [go_sem])
  have Hwb := Lib.hid hwb
  clear hwb B0
  obtain ⟨wc, hwc⟩ : ∃ wc, wc = wb.alloc (.cells #[.slice none 0 0, .int .i64 0, .slice none 0 0] 48) := ⟨_, rfl⟩
  have hBc : Blk wc wb.heap.size 48 #[.slice none 0 0, .int .i64 0, .slice none 0 0] := by rw [hwc]; exact Blk.new _ _ _
  have hRc : Res wc wb.heap.size 3 := hBc.res (by simp)
  have hAc : Ext wb wc := by rw [hwc]; exact hE.alloc _
  replace hE := Ext.refl wc
  have Hsz2 : Hid (wb.heap.size + 1 = wc.heap.size) := Lib.hid (by rw [hwc]; simp [go_sem])
  have Hwc := Lib.hid hwc
  clear hwc hBc
  have hwc : wb.heap.size < wc.heap.size := by have := Hsz2.out; omega
  have hwW : Ext w wc := hE0.trans hAc
  have hvc : Hid (∀ W, Ext wc W → Ints W v l) := Lib.hid fun W hW => hv.ext (hwW.trans hW)
  have huc : Hid (∀ W, Ext wc W → Ints W u m) := Lib.hid fun W hW => hu.ext (hwW.trans hW)
  have c0 : ∀ W, Ext wc W → W.cell? ⟨w.heap.size, 0, none⟩ = some v := fun W hW => b0 W (hAc.trans hW)
  have c1 : ∀ W, Ext wc W → W.cell? ⟨w.heap.size, 1, none⟩ = some (.int .i64 a) := fun W hW => b1 W (hAc.trans hW)
  have c2 : ∀ W, Ext wc W → W.cell? ⟨w.heap.size, 2, none⟩ = some u := fun W hW => b2 W (hAc.trans hW)
  have a24 : a < 2 ^ 24 := Nat.lt_of_lt_of_le ha (pow_ord Hgr.out)
  have hob := ord_bd Hgr.out
  have Hml := Lib.hid hml
  have Hbd := Lib.hid hbd
  have Hn := Lib.hid hn
  clear hv hu b0 b1 b2 hml hbd hn
  go_enter Try.func141, Try.ntmps141
  go_upto_region 1 with fail
  rw [← Hwb.out, ← Hwc.out]; rw [Hsz.out]
  rename World => wq
  go_cut [7] (fun s7 wx => ChgP wq l m a s7 wx)
  case first =>
    have hD := hE.drew
    go_region_held3 (fun W => Ext wq W ∧ W.cell? ⟨w.heap.size, 0, none⟩ = some v ∧ W.cell? ⟨w.heap.size, 1, none⟩ = some (.int .i64 a) ∧ W.cell? ⟨w.heap.size, 2, none⟩ = some u) (exact ⟨(by (repeat (refine Ext.setCell ?_ (by first | assumption | (simp; omega) | (simp; done)) _)); repeat (first | assumption | exact Ext.refl _ | (apply And.left; assumption) | apply Ext.drew | apply Ext.alloc)), c0 _ (by (repeat (refine Ext.setCell ?_ (by first | assumption | (simp; omega) | (simp; done)) _)); repeat (first | assumption | exact Ext.refl _ | (apply And.left; assumption) | apply Ext.drew | apply Ext.alloc)), c1 _ (by (repeat (refine Ext.setCell ?_ (by first | assumption | (simp; omega) | (simp; done)) _)); repeat (first | assumption | exact Ext.refl _ | (apply And.left; assumption) | apply Ext.drew | apply Ext.alloc)), c2 _ (by (repeat (refine Ext.setCell ?_ (by first | assumption | (simp; omega) | (simp; done)) _)); repeat (first | assumption | exact Ext.refl _ | (apply And.left; assumption) | apply Ext.drew | apply Ext.alloc))⟩) (first | (refine step_copy2 slI rfl _ _ rfl _ v l rfl rfl (by repeat (first | (with_reducible assumption) | (with_reducible exact Blk.new _ _ _) | (with_reducible refine Blk.new' ?_; simp [go_sem]; done) | (with_reducible apply Blk.alloc) | (with_reducible apply Blk.drew) | (with_reducible refine Blk.ext ?_ hXB))) (hvc.out _ (by repeat (first | assumption | exact Ext.refl _ | (apply And.left; assumption) | apply Ext.drew | apply Ext.alloc))) wq (by first | exact Nat.le_refl _ | omega) (by repeat (first | assumption | exact Ext.refl _ | (apply And.left; assumption) | apply Ext.drew | apply Ext.alloc)) ?_; intro aoA coA wA hOA hkA hXA; have hHA := Ext.trans (a := wq) (by repeat (first | assumption | exact Ext.refl _ | (apply And.left; assumption) | apply Ext.drew | apply Ext.alloc)) hXA; have hsA := hHA.size; have htA := hXA.size; (try (have hBk := Blk.ext (T := 48) (cs := #[.slice none 0 0, .int .i64 0, .slice none 0 0]) (by repeat (first | (with_reducible assumption) | (with_reducible exact Blk.new _ _ _) | (with_reducible apply Blk.alloc) | (with_reducible apply Blk.drew))) hXA; (try simp [go_sem] at hBk); have zk0 := hBk.cell (i := 0) (v := .slice none 0 0) rfl; have zk1 := hBk.cell (i := 1) (v := .int .i64 0) rfl; have zk2 := hBk.cell (i := 2) (v := .slice none 0 0) rfl; have fk0 := hBk.free 0; have fk1 := hBk.free 1; have fk2 := hBk.free 2))) | (refine step_copy2 slI rfl _ _ rfl _ u m rfl rfl (by repeat (first | (with_reducible assumption) | (with_reducible exact Blk.new _ _ _) | (with_reducible refine Blk.new' ?_; simp [go_sem]; done) | (with_reducible apply Blk.alloc) | (with_reducible apply Blk.drew) | (with_reducible refine Blk.ext ?_ hXA))) (huc.out _ (by repeat (first | assumption | exact Ext.refl _ | (apply And.left; assumption) | apply Ext.drew | apply Ext.alloc))) wq (by first | exact Nat.le_refl _ | omega) (by repeat (first | assumption | exact Ext.refl _ | (apply And.left; assumption) | apply Ext.drew | apply Ext.alloc)) ?_; intro aoB coB wB hOB hkB hXB; have hHB := Ext.trans (a := wq) (by repeat (first | assumption | exact Ext.refl _ | (apply And.left; assumption) | apply Ext.drew | apply Ext.alloc)) hXB; have hsB := hHB.size; have htB := hXB.size; (try (have hBk := Blk.ext (T := 48) (cs := #[.slice none 0 0, .int .i64 0, .slice none 0 0]) (by repeat (first | (with_reducible assumption) | (with_reducible exact Blk.new _ _ _) | (with_reducible apply Blk.alloc) | (with_reducible apply Blk.drew))) hXB; (try simp [go_sem] at hBk); have zk0 := hBk.cell (i := 0) (v := .slice none 0 0) rfl; have zk1 := hBk.cell (i := 1) (v := .int .i64 0) rfl; have zk2 := hBk.cell (i := 2) (v := .slice none 0 0) rfl; have fk0 := hBk.free 0; have fk1 := hBk.free 1; have fk2 := hBk.free 2))))
    all_goals (go_wp2_with fail; go_meet)
    all_goals
      have oA : Own 3 wq wB (.slice aoA l.length coA) l := by refine Own.ext ?_ hXB; repeat (first | exact hOA | refine Own.alloc ?_ _ | refine Own.drew ?_)
      have hap : ∀ k, (Value.slice aoA l.length coA).ownBlock = some k → (Value.slice aoB m.length coB).ownBlock ≠ some k := by
        intro k e1 e2
        have a1 := hkA k e1
        have a2 := hOA.blk k e1
        have a3 := hkB k e2
        simp [go_sem] at a1 a3 htA htB
        omega
      first
      | exact ⟨_, aoA, coA, aoB, coB, rfl, hsB, Blk.new _ _ _, oA.alloc _, hOB.alloc _, hap, hHB.alloc _⟩
      | (have nA := oA.ne_blk hBk (by decide); have nB := hOB.ne_blk hBk (by decide); exact ⟨_, aoA, coA, aoB, coB, rfl, (by omega), ((hBk.set 0 _).set 1 _).set 2 _, ((oA.setCell_ne nA _).setCell_ne nA _).setCell_ne nA _, ((hOB.setCell_ne nB _).setCell_ne nB _).setCell_ne nB _, hap, (by (repeat (refine Ext.setCell ?_ (by simp only []; omega) _)); exact hHB)⟩)
  case rest =>
    obtain ⟨g, ao, co, ap, cp, rfl, hg1, hB, hOl, hOm, hap, hEx⟩ := hcut
    obtain ⟨gS, rfl, hS1, hS2⟩ := hOm.row rfl (by rw [Hml.out]; omega)
    have Hap := Lib.hid hap
    have hpx := pw_le (show x ≤ 24 by omega)
    obtain ⟨A1, hA1⟩ : ∃ A1, A1 = a &&& pw x := ⟨_, rfl⟩
    obtain ⟨D, hD1⟩ : ∃ D, D = andN a (2 ^ x) := ⟨_, rfl⟩
    have hs1 := ishl_one (n := x) (by omega)
    have hs2 : iand (a : Int) ((pw x : Nat) : Int) = (A1 : Int) := by rw [hA1]; exact iand_nat (by omega) (by omega)
    have hw : IntKind.i64.wrap ((a : Int) - (A1 : Int)) = (D : Int) := by
      have e : (a : Int) - (A1 : Int) = (D : Int) := by have := andN_sub 24 a (2 ^ x) a24; rw [hA1, hD1, pw_eq]; omega
      rw [e]; exact IntWalk.i64_in _ (by have := andN_lt (b := 2 ^ x) a24; rw [← hD1] at this; omega)
    have hD24 : D < 2 ^ 24 := by rw [hD1]; exact andN_lt a24
    have HD1 := Lib.hid hD1
    have d0 : ∀ W, Ext wc W → W.cell? ⟨w.heap.size, 0, none⟩ = some v := fun W hW => c0 W (hEx.trans hW)
    have d1 : ∀ W, Ext wc W → W.cell? ⟨w.heap.size, 1, none⟩ = some (.int .i64 a) := fun W hW => c1 W (hEx.trans hW)
    have hgv : ∀ W, Ext wq W → Ints W v l := hvc.out
    have Hgv := Lib.hid hgv
    clear hA1 hD1 hap c1 c2 hgv hE
    go_wp2_with fail
    have hD := (Ext.refl (wc)).drew
    first | (go_region_held3 (fun W => Ext (wc) W ∧ W.cell? ⟨w.heap.size, 1, none⟩ = some (.int .i64 a)) (exact ⟨(by repeat (first | assumption | exact Ext.refl _ | (apply And.left; assumption) | apply Ext.drew | apply Ext.alloc)), d1 _ (by repeat (first | assumption | exact Ext.refl _ | (apply And.left; assumption) | apply Ext.drew | apply Ext.alloc))⟩) (first | (go_at_call 174; ((with_reducible refine Calls.mono (l3List_any D hD24 _) ?_); rintro e wH0 ⟨vL, rfl, hL, hX0⟩; have hH0 := Ext.trans (a := wc) (by repeat (first | assumption | exact Ext.refl _ | (apply And.left; assumption) | apply Ext.drew | apply Ext.alloc)) hX0)))) | (fail "the region with calls")
    replace hL := hL.mono (show Ext wc _ by repeat (first | assumption | exact Ext.refl _ | (apply And.left; assumption) | apply Ext.drew | apply Ext.alloc))
    obtain ⟨aoL, cL, rfl⟩ := hL.nshape
    have hC0 : Ext wc wH0 := by repeat (first | assumption | exact Ext.refl _ | (apply And.left; assumption) | apply Ext.drew | apply Ext.alloc)
    replace hB := hB.ext hC0
    replace hOl := hOl.ext hC0
    replace hOm := hOm.ext hC0
    have hE := hEx.trans hC0
    have hall : ∀ y ∈ elems D, y < 24 := fun y hy => elems_lt hy
    have hlen := elems_len D
    have HF : Hid (elems (andN a (2 ^ x)) = elems D) := Lib.hid (by rw [HD1.out])
    clear hX0 hH0 hD d0 d1 hs1 hs2 hw hC0
    generalize elems D = L at hL hall hlen HF ⊢
    have hn1 : -1 ≤ n ∧ n ≤ 1 := by rcases Hn.out with e | e <;> omega
    have hw2 : IntKind.i64.wrap (2 * n) = 2 * n := IntWalk.i64_in _ (by omega)
    have hixS := row_index gS m.length cp
    have hxo : x < 24 := by omega
    clear HD1 hD24
    go_wp2_with fail
    go_loopw [9] (fun i wr => ∃ k : Nat, k ≤ L.length ∧ i = .int .i64 k ∧ Own 3 wq wr (.slice (some ⟨gS, 0, none⟩) m.length cp) (chgL l x n m (L.take k)) ∧ Own 3 wq wr (.slice ao l.length co) l ∧ Own 3 wc wr (.slice aoL L.length cL) (castL L) ∧ Blk wr g 48 #[.slice ao l.length co, .int .i64 a, .slice (some ⟨gS, 0, none⟩) m.length cp] ∧ Ext wq wr) (fun i _ => L.length - (intOf i).toNat)
    case atStart => exact ⟨0, by omega, rfl, hOm, hOl, hL, hB, hE⟩
    case round =>
      clear hE hOm hOl hL hB
      obtain ⟨k, hk, rfl, hO, hOl, hL, hB, hE⟩ := hrel
      by_cases hlt : k < L.length
      · obtain ⟨gL, rfl, -, -⟩ := hL.row (castL_len L) (by omega)
        have hcL := lat_cell (hL.cellAt (castL_len L) hlt).1
        rw [castL_nth] at hcL
        have hixL := row_index gL L.length cL
        have hbx := fun U => c0 _ (hE.trans (lat_ext wr U))
        have hy24 := hall _ (nthN_mem hlt)
        have Hsn := Lib.hid (chgL_snoc l x n m (L.take k) (nthN L k))
        have Htk := Lib.hid (take_nthN L k hlt)
        have hLk : (L.take k).length ≤ 24 := by rw [List.length_take]; omega
        obtain ⟨z, hzd⟩ : ∃ z, z = addF l x (nthN L k) := ⟨_, rfl⟩
        have hzo : z < m.length := by rw [hzd, Hml.out]; exact addF_lt l (isGrp_ords Hgr.out) _ _
        have hfit := chg_le (x := x) Hgr.out Hn.out Hml.out Hbd.out hLk z
        have hT : Hid ((chgL l x n m (L.take k)).length = m.length) := Lib.hid (chgL_len l x n _ _)
        have Hzd := Lib.hid hzd
        clear hzd
        generalize chgL l x n m (L.take k) = T at hO hfit Hsn hT
        have hEb := hE
        clear hE
        have hE := Ext.refl wr
        go_wp2_with fail
        (refine wp_region_lat (wr) (by kernel_rfl) (by kernel_rfl) hE ?_); (repeat (go_big_quiet_step (first | (go_at_call 166; exact Calls.lat (l2Add_any _ _ _ _ _ ((Hgv.out _ (hEb.trans (lat_ext wr _)))) (Hgr) ((by omega)) ((by omega))))))); (refine wpQuiet_nil ?_); (intro W hE'); (replace hE := lat_of hE'); (clear hE')
        rw [← Hzd.out]
        rename World => wn
        replace hO := hO.ext hE
        replace hOl := hOl.ext hE
        replace hL := hL.ext hE
        replace hB := hB.ext hE
        replace hEb := hEb.trans hE
        obtain ⟨hzc, hzf⟩ := hO.cellAt hT.out hzo
        have hg2 := hB.cell (i := 2) (v := .slice (some ⟨gS, 0, none⟩) m.length cp) rfl
        have hw3 : IntKind.i64.wrap (nth T z + 2 * n) = nth T z + 2 * n := IntWalk.i64_in _ (by omega)
        clear hE hcL hbx hixL
        go_wp2_with fail
        go_still_tail 12, (by kernel_rfl)
        change wpList _ _ _ _ _ (World.drew _)
        obtain ⟨wd, hwd⟩ : ∃ wd, wd = World.drew wn := ⟨_, rfl⟩
        have hnd : Ext wn wd := by rw [hwd]; exact (Ext.refl _).drew
        rw [← hwd]
        clear hwd hzc hzf hg2
        replace hO := hO.ext hnd
        replace hOl := hOl.ext hnd
        replace hL := hL.ext hnd
        replace hB := hB.ext hnd
        replace hEb := hEb.trans hnd
        obtain ⟨hzc, hzf⟩ := hO.cellAt hT.out hzo
        go_wp2_with fail
        go_roundw
        case rel =>
          refine ⟨k + 1, by omega, by go_num, ?_, hOl.setCell_ne (fun e => Hap.out gS e rfl) _, hL.setCell_below hS2 _, hB.other (fun e => hO.ne_blk hB (by decide) (by rw [show g = gS from e]; rfl)) _, hEb.setCell hS1 _⟩
          rw [Htk.out, Hsn.out, ← Hzd.out]
          exact (hO.stored_grown hT.out _ _).1
        case measure => (simp [intOf]; omega)
      · have hkl : k = L.length := by omega
        subst hkl
        rw [List.take_length] at hO
        obtain ⟨z, hzd⟩ : ∃ z, z = addF l x x := ⟨_, rfl⟩
        have hzo : z < m.length := by rw [hzd, Hml.out]; exact addF_lt l (isGrp_ords Hgr.out) _ _
        have hfit := chg_le (x := x) Hgr.out Hn.out Hml.out Hbd.out hlen z
        have hT : Hid ((chgL l x n m L).length = m.length) := Lib.hid (chgL_len l x n _ _)
        have HFin : Hid (chgF l x n m L = (chgL l x n m L).set z (nth (chgL l x n m L) z + n)) := Lib.hid (by rw [hzd]; rfl)
        have HFl : Hid ((chgF l x n m L).length = m.length) := Lib.hid (chgF_len l x n m L)
        have Hzd := Lib.hid hzd
        clear hzd
        generalize chgL l x n m L = T at hO hfit hT HFin
        have hbx := c0 _ hE
        go_wp2_with fail
        refine (l2Add_any _ _ _ _ _ (Hgv.out _ hE) Hgr (by omega) (by omega)).mono ?_
        rw [← Hzd.out]
        rintro e wn ⟨rfl, hE1⟩
        replace hO := hO.ext hE1
        replace hOl := hOl.ext hE1
        replace hL := hL.ext hE1
        replace hB := hB.ext hE1
        have hEb := hE.trans hE1
        obtain ⟨hzc, hzf⟩ := hO.cellAt hT.out hzo
        have hg2 := hB.cell (i := 2) (v := .slice (some ⟨gS, 0, none⟩) m.length cp) rfl
        have hw3 : IntKind.i64.wrap (nth T z + n) = nth T z + n := IntWalk.i64_in _ (by omega)
        clear hE hE1 hbx
        go_wp2_with fail
        go_still_tail 11, (by kernel_rfl)
        change wpList _ _ _ _ _ (World.drew _)
        obtain ⟨wd, hwd⟩ : ∃ wd, wd = World.drew wn := ⟨_, rfl⟩
        have hnd : Ext wn wd := by rw [hwd]; exact (Ext.refl _).drew
        rw [← hwd]
        clear hwd hzc hzf hg2
        replace hO := hO.ext hnd
        replace hOl := hOl.ext hnd
        replace hL := hL.ext hnd
        replace hB := hB.ext hnd
        replace hEb := hEb.trans hnd
        obtain ⟨hzc, hzf⟩ := hO.cellAt hT.out hzo
        have y0 := hB.cell (i := 0) (v := .slice ao l.length co) rfl
        have y1 := hB.cell (i := 1) (v := .int .i64 a) rfl
        have y2 := hB.cell (i := 2) (v := .slice (some ⟨gS, 0, none⟩) m.length cp) rfl
        have hne : ¬ g = gS := fun e => hO.ne_blk hB (by decide) (by rw [e]; rfl)
        have hne' : ¬ gS = g := fun e => hne e.symm
        have hne2 : ¬ wb.heap.size = gS := by omega
        have hne3 : ¬ gS = wb.heap.size := by omega
        have hr := hRc.ext hEb
        unfold Res at hr
        go_wp2_with fail
        have hO2 := (hO.stored_grown hT.out z (nth T z + n)).1
        rw [← HFin.out] at hO2
        have hOl2 := hOl.setCell_ne (p := ⟨gS, z, none⟩) (fun e => Hap.out gS e rfl) (.int .i64 (nth T z + n))
        have hEf := hEb.setCell (p := ⟨gS, z, none⟩) hS1 (.int .i64 (nth T z + n))
        exact bodyPost_ret (v := .agg #[.slice ao l.length co, .int .i64 a, .slice (some ⟨gS, 0, none⟩) m.length cp]) (by simp [results, Try.results141, go_sem, hr]) rfl ⟨_, _, _, _, rfl, ⟨_, _, rfl, (((hOl2.setCell_below hwc _).setCell_below hwc _).setCell_below hwc _).mono hwW, by
            rw [HF.out]; exact (((hO2.setCell_below hwc _).setCell_below hwc _).setCell_below hwc _).mono hwW, (by
            cases hq : (Value.slice ao l.length co).ownBlock with
            | none => exact Or.inl rfl
            | some k => exact Or.inr fun e => Hap.out k hq e.symm)⟩, (by
            refine Ext.setCell (Ext.setCell (Ext.setCell (hwW.trans hEf) ?_ _) ?_ _) ?_ _ <;> (simp only []; exact Nat.le_trans (by omega) (Nat.le_of_eq Hsz.out)))⟩
end Go.Zz
