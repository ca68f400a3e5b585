/- Elements that are added to kept counts and removed: the program. -/
import Derived.Test.YtgjllfekhfdhaaaC35
import Derived.Test.YtgjllfekhfdhaaaC29
namespace Go.Zz
open Go.RowKit Go.Proofs
set_option maxHeartbeats 1000000
set_option maxRecDepth 20000

def kvL (b : Bool) (l : List Int) : List Int := if b then l else []
def kvN (b : Bool) (s : Nat) : Int := if b then (s : Int) else 0
def kvM (b : Bool) (l : List Int) (s : Nat) : List Int := if b then tabN l s s else []
theorem kv_no {b : Bool} (h : b = false) (l : List Int) (s : Nat) : kvL b l = [] ∧ kvN b s = 0 ∧ kvM b l s = [] := by subst h; exact ⟨rfl, rfl, rfl⟩
theorem kv_yes {b : Bool} (h : b = true) (l : List Int) (s : Nat) : kvL b l = l ∧ kvN b s = (s : Int) ∧ kvM b l s = tabN l s s := by subst h; exact ⟨rfl, rfl, rfl⟩
def adB (l : List Int) (n : Int) (m : List Int) (x : Int) : Bool := keptB l n m && hasB l x && !n.toNat.testBit x.toNat
def rmB (l : List Int) (n : Int) (m : List Int) (x : Int) : Bool := keptB l n m && hasB l x && n.toNat.testBit x.toNat
def adS (n x : Int) : Nat := n.toNat ||| 2 ^ x.toNat
def rmS (n x : Int) : Nat := andN n.toNat (2 ^ x.toNat)
theorem OwnK2.setCell_below {w0 w : World} {c : Value} {l m : List Int} {n : Int} (h : OwnK2 w0 w c l n m) {p : Addr} (hp : p.block < w0.heap.size) (x : Value) : OwnK2 w0 (w.setCell p x) c l n m := by
  obtain ⟨v, u, rfl, h1, h2, h3⟩ := h; exact ⟨v, u, rfl, h1.setCell_below hp x, h2.setCell_below hp x, h3⟩
theorem NewKept_yes (v : Value) (l : List Int) (s : Nat) (w : World) (h : Ints w v l) (hs : isSetB l s = true) :
    Calls Try.prog 129 #[.agg #[v], .int .i64 s] w fun e w' => ∃ ao co ap cp, e = .returned (.tuple #[.agg #[.slice ao l.length co, .int .i64 s, .slice ap (tabN l s s).length cp], .bool true]) ∧ OwnK2 w w' (.agg #[.slice ao l.length co, .int .i64 s, .slice ap (tabN l s s).length cp]) l s (tabN l s s) ∧ Ext w w' :=
  (NewKept_any v l s w h).mono fun e w' ⟨c, he, hK, hE⟩ => by
    rw [(nk_yes hs).1, (nk_yes hs).2, tabF_N (by rw [hs]; rfl)] at hK
    have hK' := hK
    obtain ⟨v1, u1, rfl, h1, h2, -⟩ := hK
    obtain ⟨ao, co, rfl, -⟩ := h1.shape
    obtain ⟨ap, cp, rfl, -⟩ := h2.shape
    exact ⟨ao, co, ap, cp, by rw [he, hs], hK', hE⟩
theorem or_lt {l : List Int} {a x : Nat} (ha : a < 2 ^ ord l) (hx : x < ord l) : a ||| 2 ^ x < 2 ^ ord l := Nat.or_lt_two_pow ha (Nat.pow_lt_pow_right (by omega) hx)

theorem AddTo_any (c : Value) (l m : List Int) (n x : Int) (w : World) (h : IsK w c l n m) :
    Calls Try.prog 52 #[c, .int .i64 x] w fun e w' => ∃ d, e = .returned (.tuple #[d, .bool (adB l n m x)]) ∧ OwnK2 w w' d (kvL (adB l n m x) l) (kvN (adB l n m x) (adS n x)) (kvM (adB l n m x) l (adS n x)) ∧ Ext w w' := by
  obtain ⟨v, u, rfl, hv, hu⟩ := h
  obtain ⟨wb, hwb⟩ : ∃ wb, wb = w.alloc (.cells #[v, .int .i64 n, u] 65) := ⟨_, rfl⟩
  have hE0 : Ext w wb := by rw [hwb]; exact (Ext.refl _).alloc _
  have B0 : Blk wb w.heap.size 65 #[v, .int .i64 n, u] := by rw [hwb]; exact Blk.new _ _ _
  have b0 : ∀ W, Ext wb W → W.cell? ⟨w.heap.size, 0, none⟩ = some v := fun W hW => (B0.ext hW).cell (i := 0) rfl
  have b1 : ∀ W, Ext wb W → W.cell? ⟨w.heap.size, 1, none⟩ = some (.int .i64 n) := fun W hW => (B0.ext hW).cell (i := 1) rfl
  have b2 : ∀ W, Ext wb W → W.cell? ⟨w.heap.size, 2, none⟩ = some u := fun W hW => (B0.ext hW).cell (i := 2) rfl
  have hg : ∀ W, Ext wb W → Ints W v l := fun W hW => hv.ext (hE0.trans hW)
  have hg2 : ∀ W, Ext wb W → Ints W u m := fun W hW => hu.ext (hE0.trans hW)
  have hE := Ext.refl wb
  have Hsz : Hid (w.heap.size + 1 = wb.heap.size) := Lib.hid (by rw [hwb]; simp [go_sem])
  have Hwb := Lib.hid hwb
  clear hwb hv hu B0
  obtain ⟨wc, hwc⟩ : ∃ wc, wc = wb.alloc (.cells #[.slice none 0 0, .int .i64 0, .slice none 0 0] 65) := ⟨_, rfl⟩
  have hBc : Blk wc wb.heap.size 65 #[.slice none 0 0, .int .i64 0, .slice none 0 0] := by rw [hwc]; exact Blk.new _ _ _
  have hRc : Res wc wb.heap.size 3 := hBc.res (by simp)
  have hAc : Ext wb wc := by rw [hwc]; exact hE.alloc _
  replace hE := Ext.refl wc
  have Hsz2 : Hid (wb.heap.size + 1 = wc.heap.size) := Lib.hid (by rw [hwc]; simp [go_sem])
  have Hwc := Lib.hid hwc
  clear hwc hBc
  have hwc : wb.heap.size < wc.heap.size := by have := Hsz2.out; omega
  have c0 : ∀ W, Ext wc W → W.cell? ⟨w.heap.size, 0, none⟩ = some v := fun W hW => b0 W (hAc.trans hW)
  have c1 : ∀ W, Ext wc W → W.cell? ⟨w.heap.size, 1, none⟩ = some (.int .i64 n) := fun W hW => b1 W (hAc.trans hW)
  have c2 : ∀ W, Ext wc W → W.cell? ⟨w.heap.size, 2, none⟩ = some u := fun W hW => b2 W (hAc.trans hW)
  have hgc : ∀ W, Ext wc W → Ints W v l := fun W hW => hg W (hAc.trans hW)
  have hg2c : ∀ W, Ext wc W → Ints W u m := fun W hW => hg2 W (hAc.trans hW)
  have hrr : ∀ W, Ext wc W → ∀ i, i < 3 → W.cell? ⟨wb.heap.size, i, none⟩ = some (At W ⟨wb.heap.size, i, none⟩) ∧ W.frozen? ⟨wb.heap.size, i, none⟩ = false := fun W hW => hRc.ext hW
  cases hk : keptB l n m
  · have Hv : Hid (adB l n m x = false) := Lib.hid (by unfold adB; rw [hk]; rfl)
    have hr := hrr
    go_enter Try.func52, Try.ntmps52
    go_wp2_with fail
    rw [← Hwb.out, ← Hwc.out]; rw [Hsz.out]
    go_wp2_with (first | (go_at_call 126; refine (IsKept_val _ _ _ _ _ (⟨_, _, rfl, hgc _ hE, hg2c _ hE⟩) (hk)).mono ?_; rintro e w' ⟨rfl, hE'⟩; replace hE := hE.trans hE'; clear hE'))
    exact bodyPost_ret (v := .tuple #[.agg #[.slice none 0 0, .int .i64 0, .slice none 0 0], .bool false]) (by simp [results, Try.results52, go_sem, hrr _ hE]) rfl ⟨_, by rw [Hv.out], by rw [(kv_no Hv.out l 0).1, (kv_no Hv.out l _).2.1, (kv_no Hv.out l _).2.2]; exact OwnK2.none _ _, hE0.trans (Ext.setCell (Ext.setCell (Ext.setCell (hAc.trans hE) (Nat.le_refl _) _) (Nat.le_refl _) _) (Nat.le_refl _) _)⟩
  · cases hx : hasB l x
    · have Hv : Hid (adB l n m x = false) := Lib.hid (by unfold adB; rw [hx]; simp)
      go_enter Try.func52, Try.ntmps52
      go_wp2_with fail
      rw [← Hwb.out, ← Hwc.out]; rw [Hsz.out]
      go_wp2_with (first | (go_at_call 126; refine (IsKept_val _ _ _ _ _ (⟨_, _, rfl, hgc _ hE, hg2c _ hE⟩) (hk)).mono ?_; rintro e w' ⟨rfl, hE'⟩; replace hE := hE.trans hE'; clear hE') | (go_at_call 127; refine (has_val _ _ _ _ (hgc _ hE) hx).mono ?_; rintro e w' ⟨rfl, hE'⟩; replace hE := hE.trans hE'; clear hE'))
      exact bodyPost_ret (v := .tuple #[.agg #[.slice none 0 0, .int .i64 0, .slice none 0 0], .bool false]) (by simp [results, Try.results52, go_sem, hrr _ hE]) rfl ⟨_, by rw [Hv.out], by rw [(kv_no Hv.out l 0).1, (kv_no Hv.out l _).2.1, (kv_no Hv.out l _).2.2]; exact OwnK2.none _ _, hE0.trans (Ext.setCell (Ext.setCell (Ext.setCell (hAc.trans hE) (Nat.le_refl _) _) (Nat.le_refl _) _) (Nat.le_refl _) _)⟩
    · have HB : Hid (adB l n m x = !  n.toNat.testBit x.toNat) := Lib.hid (by unfold adB; rw [hk, hx]; rfl)
      obtain ⟨a, rfl, ha1, ha2, hgr, -, hsa⟩ := keptB_nat hk
      obtain ⟨x, rfl, hx2, -⟩ := hasB_nat hx
      have hob := ord_bd hgr
      have HS : Hid (adS (a : Int) (x : Int) = HOr.hOr a (2 ^ x)) := Lib.hid rfl
      have Hgr := Lib.hid hgr
      clear hgr
      cases hb : a.testBit x
      · have Hv : Hid (adB l a m x = true) := Lib.hid (by rw [HB.out]; simp [hb])
        have hs1 := ishl_one (n := x) (by omega)
        obtain ⟨s, hsd⟩ : ∃ s, s = HOr.hOr a (2 ^ x) := ⟨_, rfl⟩; have hsb : s < 2 ^ ord l := (by rw [hsd]; exact or_lt ha1 hx2); have hs2 : ior (a : Int) ((pw x : Nat) : Int) = (s : Int) := (by rw [hsd]; exact ior_pw ha2 (by omega)); rw [← hsd] at HS; clear hsd
        rw [Hv.out, HS.out]
        have hsl : s < 2 ^ 24 := Nat.lt_of_lt_of_le hsb (pow_ord Hgr.out)
        have hss : isSetB l (s : Int) = true := isSetB_of Hgr.out hsb
        rw [(kv_yes rfl l s).1, (kv_yes rfl l s).2.1, (kv_yes rfl l s).2.2]
        go_enter Try.func52, Try.ntmps52
        go_wp2_with fail
        rw [← Hwb.out, ← Hwc.out]; rw [Hsz.out]
        go_wp2_with (first | (go_at_call 126; refine (IsKept_val _ _ _ _ _ (⟨_, _, rfl, hgc _ hE, hg2c _ hE⟩) (hk)).mono ?_; rintro e w' ⟨rfl, hE'⟩; replace hE := hE.trans hE'; clear hE') | (go_at_call 127; refine (has_val _ _ _ _ (hgc _ hE) hx).mono ?_; rintro e w' ⟨rfl, hE'⟩; replace hE := hE.trans hE'; clear hE') | (go_at_call 128; refine (in_val a x ha2 (by omega) _ hb).mono ?_; rintro e w' ⟨rfl, rfl⟩))
        clear hk hx hb
        have hD := hE.drew
        first | (go_region_held3 (fun W => Ext (wb) W ∧ W.cell? ⟨w.heap.size, 0, none⟩ = some v ∧ W.cell? ⟨w.heap.size, 1, none⟩ = some (.int .i64 (a : Int)) ∧ (∀ i, i < 3 → W.cell? ⟨(wb).heap.size, i, none⟩ = some (At W ⟨(wb).heap.size, i, none⟩) ∧ W.frozen? ⟨(wb).heap.size, i, none⟩ = false)) (exact ⟨(by (repeat (refine Ext.setCell ?_ (Nat.le_refl _) _)); exact Ext.trans hAc (by repeat (first | assumption | exact Ext.refl _ | (apply And.left; assumption) | apply Ext.drew | apply Ext.alloc))), b0 _ (by (repeat (refine Ext.setCell ?_ (Nat.le_refl _) _)); exact Ext.trans hAc (by repeat (first | assumption | exact Ext.refl _ | (apply And.left; assumption) | apply Ext.drew | apply Ext.alloc))), b1 _ (by (repeat (refine Ext.setCell ?_ (Nat.le_refl _) _)); exact Ext.trans hAc (by repeat (first | assumption | exact Ext.refl _ | (apply And.left; assumption) | apply Ext.drew | apply Ext.alloc))), (by (repeat (refine Res.setCell ?_ _ _)); exact Res.ext hRc (by repeat (first | assumption | exact Ext.refl _ | (apply And.left; assumption) | apply Ext.drew | apply Ext.alloc)))⟩) (first | (go_at_call 129; ((with_reducible refine Calls.mono (NewKept_yes _ _ s _ (hgc _ (by repeat (first | assumption | exact Ext.refl _ | (apply And.left; assumption) | apply Ext.drew | apply Ext.alloc))) hss) ?_); rintro e wH0 ⟨ao, co, ap, cp, rfl, hK1, hX0⟩; have hH0 := Ext.trans (a := wc) (by repeat (first | assumption | exact Ext.refl _ | (apply And.left; assumption) | apply Ext.drew | apply Ext.alloc)) hX0)))) | (fail "the region with a result")
        go_wp2_with fail
        have hK2 := hK1.mono (show Ext wc _ by repeat (first | assumption | exact Ext.refl _ | (apply And.left; assumption) | apply Ext.drew | apply Ext.alloc))
        exact bodyPost_ret (v := .tuple #[.agg #[.slice ao l.length co, .int .i64 s, .slice ap (tabN l s s).length cp], .bool true]) (by simp [results, Try.results52, go_sem, hrr _ hH0]) rfl ⟨_, rfl, (((hK2.setCell_below hwc _).setCell_below hwc _).setCell_below hwc _).mono (hE0.trans hAc), hE0.trans (Ext.setCell (Ext.setCell (Ext.setCell (hAc.trans hH0) (Nat.le_refl _) _) (Nat.le_refl _) _) (Nat.le_refl _) _)⟩
      · have Hv : Hid (adB l a m x = false) := Lib.hid (by rw [HB.out]; simp [hb])
        go_enter Try.func52, Try.ntmps52
        go_wp2_with fail
        rw [← Hwb.out, ← Hwc.out]; rw [Hsz.out]
        go_wp2_with (first | (go_at_call 126; refine (IsKept_val _ _ _ _ _ (⟨_, _, rfl, hgc _ hE, hg2c _ hE⟩) (hk)).mono ?_; rintro e w' ⟨rfl, hE'⟩; replace hE := hE.trans hE'; clear hE') | (go_at_call 127; refine (has_val _ _ _ _ (hgc _ hE) hx).mono ?_; rintro e w' ⟨rfl, hE'⟩; replace hE := hE.trans hE'; clear hE') | (go_at_call 128; refine (in_val a x ha2 (by omega) _ hb).mono ?_; rintro e w' ⟨rfl, rfl⟩))
        exact bodyPost_ret (v := .tuple #[.agg #[.slice none 0 0, .int .i64 0, .slice none 0 0], .bool false]) (by simp [results, Try.results52, go_sem, hrr _ hE]) rfl ⟨_, by rw [Hv.out], by rw [(kv_no Hv.out l 0).1, (kv_no Hv.out l _).2.1, (kv_no Hv.out l _).2.2]; exact OwnK2.none _ _, hE0.trans (Ext.setCell (Ext.setCell (Ext.setCell (hAc.trans hE) (Nat.le_refl _) _) (Nat.le_refl _) _) (Nat.le_refl _) _)⟩
end Go.Zz
