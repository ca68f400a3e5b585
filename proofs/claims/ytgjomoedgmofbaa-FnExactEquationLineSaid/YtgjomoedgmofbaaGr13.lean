/- Elements that are added to kept counts and removed: AddTo and RemoveFrom of the reference. -/
import Derived.Test.YtgjomoedgmofbaaGr12
import Derived.Test.YtgjomoedgmofbaaGr11
import Derived.Test.YtgjomoedgmofbaaGr9
import Derived.Test.YtgjomoedgmofbaaGr10
import Derived.Test.YtgjomoedgmofbaaGr7
namespace Go.Zz
open Go.RowKit Go.Proofs
set_option maxHeartbeats 4000000
set_option maxRecDepth 20000

theorem bit_val {a n : Nat} (ha : a < 2 ^ 24) {b : Bool} (hb : a.testBit n = b) : iand ((shr a n : Nat) : Int) 1 = if b then 1 else 0 := by
  have h1 := shr_le a n
  rw [iand_one (by omega)]
  have : a.testBit n = decide (shr a n % 2 = 1) := by rw [Nat.testBit_eq_decide_div_mod_eq, ← Nat.shiftRight_eq_div_pow]; rfl
  rw [hb] at this
  cases b
  · have h2 := of_decide_eq_false this.symm
    have : shr a n % 2 = 0 := by omega
    rw [this]; rfl
  · have h2 := of_decide_eq_true this.symm
    rw [h2]; rfl
theorem and_pow {a x : Nat} (hb : a.testBit x = true) : a &&& 2 ^ x = 2 ^ x := by
  apply Nat.eq_of_testBit_eq
  intro i
  rw [Nat.testBit_and, Nat.testBit_two_pow]
  by_cases h : x = i
  · subst h; simp [hb]
  · simp [h]
theorem sAddTo_any (c : Value) (l m : List Int) (n x : Int) (w : World) (h : IsK w c l n m) :
    Calls Try.prog 37 #[c, .int .i64 x] w fun e w' => ∃ d, e = .returned (.tuple #[d, .bool (adB l n m x)]) ∧ OwnK2 w w' d (kvL (adB l n m x) l) (kvN (adB l n m x) (adS n x)) (kvM (adB l n m x) l (adS n x)) ∧ Ext w w' := by
  obtain ⟨v, u, rfl, hv, hu⟩ := h
  obtain ⟨wb, hwb⟩ : ∃ wb, wb = w.alloc (.cells #[v, .int .i64 n, u] 48) := ⟨_, rfl⟩
  have hE0 : Ext w wb := by rw [hwb]; exact (Ext.refl _).alloc _
  have B0 : Blk wb w.heap.size 48 #[v, .int .i64 n, u] := by rw [hwb]; exact Blk.new _ _ _
  have b0 : ∀ W, Ext wb W → W.cell? ⟨w.heap.size, 0, none⟩ = some v := fun W hW => (B0.ext hW).cell (i := 0) rfl
  have b1 : ∀ W, Ext wb W → W.cell? ⟨w.heap.size, 1, none⟩ = some (.int .i64 n) := fun W hW => (B0.ext hW).cell (i := 1) rfl
  have b2 : ∀ W, Ext wb W → W.cell? ⟨w.heap.size, 2, none⟩ = some u := fun W hW => (B0.ext hW).cell (i := 2) rfl
  have hg : ∀ W, Ext wb W → Ints W v l := fun W hW => hv.ext (hE0.trans hW)
  have hg2 : ∀ W, Ext wb W → Ints W u m := fun W hW => hu.ext (hE0.trans hW)
  have hE := Ext.refl wb
  have Hsz : Hid (w.heap.size + 1 = wb.heap.size) := Lib.hid (by rw [hwb]; simp [go_sem])
  have Hwb := Lib.hid hwb
  clear hwb hv hu B0
  obtain ⟨wc, hwc⟩ : ∃ wc, wc = wb.alloc (.cells #[.slice none 0 0, .int .i64 0, .slice none 0 0] 48) := ⟨_, rfl⟩
  have hBc : Blk wc wb.heap.size 48 #[.slice none 0 0, .int .i64 0, .slice none 0 0] := by rw [hwc]; exact Blk.new _ _ _
  have hRc : Res wc wb.heap.size 3 := hBc.res (by simp)
  have hAc : Ext wb wc := by rw [hwc]; exact hE.alloc _
  replace hE := Ext.refl wc
  have Hsz2 : Hid (wb.heap.size + 1 = wc.heap.size) := Lib.hid (by rw [hwc]; simp [go_sem])
  have Hwc := Lib.hid hwc
  clear hwc hBc
  have hwc : wb.heap.size < wc.heap.size := by have := Hsz2.out; omega
  have c0 : ∀ W, Ext wc W → W.cell? ⟨w.heap.size, 0, none⟩ = some v := fun W hW => b0 W (hAc.trans hW)
  have c1 : ∀ W, Ext wc W → W.cell? ⟨w.heap.size, 1, none⟩ = some (.int .i64 n) := fun W hW => b1 W (hAc.trans hW)
  have c2 : ∀ W, Ext wc W → W.cell? ⟨w.heap.size, 2, none⟩ = some u := fun W hW => b2 W (hAc.trans hW)
  have hgc : ∀ W, Ext wc W → Ints W v l := fun W hW => hg W (hAc.trans hW)
  have hg2c : ∀ W, Ext wc W → Ints W u m := fun W hW => hg2 W (hAc.trans hW)
  have hrr : ∀ W, Ext wc W → ∀ i, i < 3 → W.cell? ⟨wb.heap.size, i, none⟩ = some (At W ⟨wb.heap.size, i, none⟩) ∧ W.frozen? ⟨wb.heap.size, i, none⟩ = false := fun W hW => hRc.ext hW
  cases hk : keptB l n m
  · have Hv : Hid (adB l n m x = false) := Lib.hid (by unfold adB; rw [hk]; rfl)
    go_enter Try.func37, Try.ntmps37
    go_wp2_with fail
    rw [← Hwb.out, ← Hwc.out]; rw [Hsz.out]
    go_wp2_with (first | (go_at_call 51; refine (sIsKept_val _ _ _ _ _ (⟨_, _, rfl, hgc _ hE, hg2c _ hE⟩) (hk)).mono ?_; rintro e w' ⟨rfl, hE'⟩; replace hE := hE.trans hE'; clear hE'))
    exact bodyPost_ret (v := .tuple #[.agg #[.slice none 0 0, .int .i64 0, .slice none 0 0], .bool false]) (by simp [results, Try.results37, go_sem, hrr _ hE]) rfl ⟨_, by rw [Hv.out], by rw [(kv_no Hv.out l 0).1, (kv_no Hv.out l _).2.1, (kv_no Hv.out l _).2.2]; exact OwnK2.none _ _, hE0.trans (Ext.setCell (Ext.setCell (Ext.setCell (hAc.trans hE) (Nat.le_refl _) _) (Nat.le_refl _) _) (Nat.le_refl _) _)⟩
  · cases hx : hasB l x
    · have Hv : Hid (adB l n m x = false) := Lib.hid (by unfold adB; rw [hx]; simp)
      go_enter Try.func37, Try.ntmps37
      go_wp2_with fail
      rw [← Hwb.out, ← Hwc.out]; rw [Hsz.out]
      go_wp2_with (first | (go_at_call 51; refine (sIsKept_val _ _ _ _ _ (⟨_, _, rfl, hgc _ hE, hg2c _ hE⟩) (hk)).mono ?_; rintro e w' ⟨rfl, hE'⟩; replace hE := hE.trans hE'; clear hE') | (go_at_call 140; refine (l2Is_val _ _ _ _ (hgc _ hE) hx).mono ?_; rintro e w' ⟨rfl, hE'⟩; replace hE := hE.trans hE'; clear hE'))
      exact bodyPost_ret (v := .tuple #[.agg #[.slice none 0 0, .int .i64 0, .slice none 0 0], .bool false]) (by simp [results, Try.results37, go_sem, hrr _ hE]) rfl ⟨_, by rw [Hv.out], by rw [(kv_no Hv.out l 0).1, (kv_no Hv.out l _).2.1, (kv_no Hv.out l _).2.2]; exact OwnK2.none _ _, hE0.trans (Ext.setCell (Ext.setCell (Ext.setCell (hAc.trans hE) (Nat.le_refl _) _) (Nat.le_refl _) _) (Nat.le_refl _) _)⟩
    · have HB : Hid (adB l n m x = (if n.toNat.testBit x.toNat then false else true)) := Lib.hid (by unfold adB; rw [hk, hx]; cases n.toNat.testBit x.toNat <;> rfl)
      obtain ⟨a, rfl, ha1, ha2, hgr, hmt, hsa⟩ := keptB_nat hk
      obtain ⟨x, rfl, hx2, -⟩ := hasB_nat hx
      have hob := ord_bd hgr
      have HS : Hid (adS (a : Int) (x : Int) = HOr.hOr a (2 ^ x)) := Lib.hid rfl
      have Hgr := Lib.hid hgr
      have Hmt := Lib.hid hmt
      have hsh := ishr_nat (a := a) (n := x) (by omega)
      clear hgr hmt
      cases hb : a.testBit x
      all_goals
        have hbv := bit_val ha2 hb
        simp only [if_true, if_false, Bool.false_eq_true] at hbv
      rotate_left
      · have Hv : Hid (adB l a m x = false) := Lib.hid (by rw [HB.out]; simp [hb])
        go_enter Try.func37, Try.ntmps37
        go_wp2_with fail
        rw [← Hwb.out, ← Hwc.out]; rw [Hsz.out]
        go_wp2_with (first | (go_at_call 51; refine (sIsKept_val _ _ _ _ _ (⟨_, _, rfl, hgc _ hE, hg2c _ hE⟩) (hk)).mono ?_; rintro e w' ⟨rfl, hE'⟩; replace hE := hE.trans hE'; clear hE') | (go_at_call 140; refine (l2Is_val _ _ _ _ (hgc _ hE) hx).mono ?_; rintro e w' ⟨rfl, hE'⟩; replace hE := hE.trans hE'; clear hE'))
        exact bodyPost_ret (v := .tuple #[.agg #[.slice none 0 0, .int .i64 0, .slice none 0 0], .bool false]) (by simp [results, Try.results37, go_sem, hrr _ hE]) rfl ⟨_, by rw [Hv.out], by rw [(kv_no Hv.out l 0).1, (kv_no Hv.out l _).2.1, (kv_no Hv.out l _).2.2]; exact OwnK2.none _ _, hE0.trans (Ext.setCell (Ext.setCell (Ext.setCell (hAc.trans hE) (Nat.le_refl _) _) (Nat.le_refl _) _) (Nat.le_refl _) _)⟩
      · have Hv : Hid (adB l a m x = true) := Lib.hid (by rw [HB.out]; simp [hb])
        have hs1 := ishl_one (n := x) (by omega)
        have hpx := pw_le (show x ≤ 24 by omega)
        obtain ⟨s, hsd⟩ : ∃ s, s = HOr.hOr a (2 ^ x) := ⟨_, rfl⟩; have hsb : s < 2 ^ ord l := (by rw [hsd]; exact or_lt ha1 hx2); have hs2 : ior (a : Int) ((pw x : Nat) : Int) = (s : Int) := (by rw [hsd]; exact ior_pw ha2 (by omega)); have Htab : Hid (chgF l x 1 m (elems (andN a (2 ^ x))) = tabN l s s) := Lib.hid (by rw [Hmt.out, hsd, andN_none hb]; exact tab_put Hgr.out (by omega) hb); rw [← hsd] at HS; clear hsd
        rw [Hv.out, HS.out]
        have hsl : s < 2 ^ 24 := Nat.lt_of_lt_of_le hsb (pow_ord Hgr.out)
        rw [(kv_yes rfl l s).1, (kv_yes rfl l s).2.1, (kv_yes rfl l s).2.2]
        have hml : Hid (m.length = ord l) := Lib.hid (by rw [Hmt.out, tabN_len])
        have hbd : Hid (∀ i, 0 ≤ nth m i ∧ nth m i ≤ 576) := Lib.hid (fun i => by rw [Hmt.out]; exact tabN_bd Hgr.out a a i)
        go_enter Try.func37, Try.ntmps37
        go_wp2_with fail
        rw [← Hwb.out, ← Hwc.out]; rw [Hsz.out]
        go_wp2_with (first | (go_at_call 51; refine (sIsKept_val _ _ _ _ _ (⟨_, _, rfl, hgc _ hE, hg2c _ hE⟩) (hk)).mono ?_; rintro e w' ⟨rfl, hE'⟩; replace hE := hE.trans hE'; clear hE') | (go_at_call 140; refine (l2Is_val _ _ _ _ (hgc _ hE) hx).mono ?_; rintro e w' ⟨rfl, hE'⟩; replace hE := hE.trans hE'; clear hE'))
        refine (l30Change_any _ l m a x 1 _ ⟨v, u, rfl, hgc _ hE, hg2c _ hE⟩ Hgr ha1 hx2 hml.out (by decide) hbd.out).mono ?_
        rintro e w1 ⟨ao, co, ap, cp, rfl, hK, hE1⟩
        rw [Htab.out] at hK
        obtain ⟨v1, u1, e1, hO1, hO2, hd⟩ := hK
        simp only [Value.agg.injEq, Array.mk.injEq, List.cons.injEq, and_true, true_and] at e1
        obtain ⟨rfl, rfl⟩ := e1
        have hEb := hE
        have hwE : wb.heap.size < _ := Nat.lt_of_lt_of_le hwc hE.size
        have n1 := hO1.ne_of (b := w1.heap.size) (Or.inr (Nat.le_refl _))
        have n2 := hO2.ne_of (b := w1.heap.size) (Or.inr (Nat.le_refl _))
        have Hn12 := Lib.hid (And.intro n1 n2)
        have hwl : wb.heap.size < w1.heap.size := Nat.lt_of_lt_of_le hwE hE1.size
        obtain ⟨wD, hwD⟩ : ∃ wD, wD = w1.alloc (.cells #[.slice ao l.length co, .int .i64 a, .slice ap m.length cp] 48) := ⟨_, rfl⟩
        have hDx : Ext w1 wD := by rw [hwD]; exact (Ext.refl _).alloc _
        have BD : Blk wD w1.heap.size 48 #[.slice ao l.length co, .int .i64 a, .slice ap m.length cp] := by rw [hwD]; exact Blk.new _ _ _
        replace hO1 := hO1.ext hDx
        replace hO2 := hO2.ext hDx
        replace hE := hE.trans (hE1.trans hDx)
        have k1 := c1 _ hE
        rw [hwD] at k1
        have HwD := Lib.hid hwD
        have Hd := Lib.hid hd
        clear hwD hk hx hb n1 n2 hd hbv
        go_wp2_with fail
        rw [← HwD.out]
        clear k1
        have k1 := c1 _ hE
        have z0 := BD.cell (i := 0) rfl
        have z1 := BD.cell (i := 1) rfl
        have z2 := BD.cell (i := 2) rfl
        have f1 := BD.free 1
        go_still_tail 6, (by kernel_rfl)
        change wpList _ _ _ _ _ (World.drew _)
        obtain ⟨wd, hwd⟩ : ∃ wd, wd = World.drew wD := ⟨_, rfl⟩
        have hnd : Ext wD wd := by rw [hwd]; exact (Ext.refl _).drew
        rw [← hwd]
        clear hwd z0 z1 z2 f1 k1
        replace hO1 := hO1.ext hnd
        replace hO2 := hO2.ext hnd
        replace BD := BD.ext hnd
        replace hE := hE.trans hnd
        have z0 := BD.cell (i := 0) (v := .slice ao l.length co) rfl
        have z1 := BD.cell (i := 1) (v := .int .i64 a) rfl
        have z2 := BD.cell (i := 2) (v := .slice ap m.length cp) rfl
        have f1 := BD.free 1
        have hne : ¬ wb.heap.size = w1.heap.size := by omega
        have hne' : ¬ w1.heap.size = wb.heap.size := by omega
        have hr := hrr _ hE
        go_wp2_with fail
        exact bodyPost_ret (v := .tuple #[.agg #[.slice ao l.length co, .int .i64 s, .slice ap m.length cp], .bool true]) (by simp [results, Try.results37, go_sem, hr]) rfl ⟨_, rfl, ⟨_, _, rfl,
          (show Own 3 _ _ _ _ by (repeat (first | refine Own.setCell_below ?_ hwE _ | refine Own.setCell_ne ?_ Hn12.out.1 _)); exact hO1).mono (hE0.trans (hAc.trans hEb)),
          (show Own 3 _ _ _ _ by (repeat (first | refine Own.setCell_below ?_ hwE _ | refine Own.setCell_ne ?_ Hn12.out.2 _)); exact hO2).mono (hE0.trans (hAc.trans hEb)), Hd.out⟩,
          hE0.trans (by (repeat (refine Ext.setCell ?_ (by first | exact Nat.le_refl _ | (simp only []; omega)) _)); exact hAc.trans hE)⟩
theorem sRemoveFrom_any (c : Value) (l m : List Int) (n x : Int) (w : World) (h : IsK w c l n m) :
    Calls Try.prog 46 #[c, .int .i64 x] w fun e w' => ∃ d, e = .returned (.tuple #[d, .bool (rmB l n m x)]) ∧ OwnK2 w w' d (kvL (rmB l n m x) l) (kvN (rmB l n m x) (rmS n x)) (kvM (rmB l n m x) l (rmS n x)) ∧ Ext w w' := by
  obtain ⟨v, u, rfl, hv, hu⟩ := h
  obtain ⟨wb, hwb⟩ : ∃ wb, wb = w.alloc (.cells #[v, .int .i64 n, u] 48) := ⟨_, rfl⟩
  have hE0 : Ext w wb := by rw [hwb]; exact (Ext.refl _).alloc _
  have B0 : Blk wb w.heap.size 48 #[v, .int .i64 n, u] := by rw [hwb]; exact Blk.new _ _ _
  have b0 : ∀ W, Ext wb W → W.cell? ⟨w.heap.size, 0, none⟩ = some v := fun W hW => (B0.ext hW).cell (i := 0) rfl
  have b1 : ∀ W, Ext wb W → W.cell? ⟨w.heap.size, 1, none⟩ = some (.int .i64 n) := fun W hW => (B0.ext hW).cell (i := 1) rfl
  have b2 : ∀ W, Ext wb W → W.cell? ⟨w.heap.size, 2, none⟩ = some u := fun W hW => (B0.ext hW).cell (i := 2) rfl
  have hg : ∀ W, Ext wb W → Ints W v l := fun W hW => hv.ext (hE0.trans hW)
  have hg2 : ∀ W, Ext wb W → Ints W u m := fun W hW => hu.ext (hE0.trans hW)
  have hE := Ext.refl wb
  have Hsz : Hid (w.heap.size + 1 = wb.heap.size) := Lib.hid (by rw [hwb]; simp [go_sem])
  have Hwb := Lib.hid hwb
  clear hwb hv hu B0
  obtain ⟨wc, hwc⟩ : ∃ wc, wc = wb.alloc (.cells #[.slice none 0 0, .int .i64 0, .slice none 0 0] 48) := ⟨_, rfl⟩
  have hBc : Blk wc wb.heap.size 48 #[.slice none 0 0, .int .i64 0, .slice none 0 0] := by rw [hwc]; exact Blk.new _ _ _
  have hRc : Res wc wb.heap.size 3 := hBc.res (by simp)
  have hAc : Ext wb wc := by rw [hwc]; exact hE.alloc _
  replace hE := Ext.refl wc
  have Hsz2 : Hid (wb.heap.size + 1 = wc.heap.size) := Lib.hid (by rw [hwc]; simp [go_sem])
  have Hwc := Lib.hid hwc
  clear hwc hBc
  have hwc : wb.heap.size < wc.heap.size := by have := Hsz2.out; omega
  have c0 : ∀ W, Ext wc W → W.cell? ⟨w.heap.size, 0, none⟩ = some v := fun W hW => b0 W (hAc.trans hW)
  have c1 : ∀ W, Ext wc W → W.cell? ⟨w.heap.size, 1, none⟩ = some (.int .i64 n) := fun W hW => b1 W (hAc.trans hW)
  have c2 : ∀ W, Ext wc W → W.cell? ⟨w.heap.size, 2, none⟩ = some u := fun W hW => b2 W (hAc.trans hW)
  have hgc : ∀ W, Ext wc W → Ints W v l := fun W hW => hg W (hAc.trans hW)
  have hg2c : ∀ W, Ext wc W → Ints W u m := fun W hW => hg2 W (hAc.trans hW)
  have hrr : ∀ W, Ext wc W → ∀ i, i < 3 → W.cell? ⟨wb.heap.size, i, none⟩ = some (At W ⟨wb.heap.size, i, none⟩) ∧ W.frozen? ⟨wb.heap.size, i, none⟩ = false := fun W hW => hRc.ext hW
  cases hk : keptB l n m
  · have Hv : Hid (rmB l n m x = false) := Lib.hid (by unfold rmB; rw [hk]; rfl)
    go_enter Try.func46, Try.ntmps46
    go_wp2_with fail
    rw [← Hwb.out, ← Hwc.out]; rw [Hsz.out]
    go_wp2_with (first | (go_at_call 51; refine (sIsKept_val _ _ _ _ _ (⟨_, _, rfl, hgc _ hE, hg2c _ hE⟩) (hk)).mono ?_; rintro e w' ⟨rfl, hE'⟩; replace hE := hE.trans hE'; clear hE'))
    exact bodyPost_ret (v := .tuple #[.agg #[.slice none 0 0, .int .i64 0, .slice none 0 0], .bool false]) (by simp [results, Try.results46, go_sem, hrr _ hE]) rfl ⟨_, by rw [Hv.out], by rw [(kv_no Hv.out l 0).1, (kv_no Hv.out l _).2.1, (kv_no Hv.out l _).2.2]; exact OwnK2.none _ _, hE0.trans (Ext.setCell (Ext.setCell (Ext.setCell (hAc.trans hE) (Nat.le_refl _) _) (Nat.le_refl _) _) (Nat.le_refl _) _)⟩
  · cases hx : hasB l x
    · have Hv : Hid (rmB l n m x = false) := Lib.hid (by unfold rmB; rw [hx]; simp)
      go_enter Try.func46, Try.ntmps46
      go_wp2_with fail
      rw [← Hwb.out, ← Hwc.out]; rw [Hsz.out]
      go_wp2_with (first | (go_at_call 51; refine (sIsKept_val _ _ _ _ _ (⟨_, _, rfl, hgc _ hE, hg2c _ hE⟩) (hk)).mono ?_; rintro e w' ⟨rfl, hE'⟩; replace hE := hE.trans hE'; clear hE') | (go_at_call 140; refine (l2Is_val _ _ _ _ (hgc _ hE) hx).mono ?_; rintro e w' ⟨rfl, hE'⟩; replace hE := hE.trans hE'; clear hE'))
      exact bodyPost_ret (v := .tuple #[.agg #[.slice none 0 0, .int .i64 0, .slice none 0 0], .bool false]) (by simp [results, Try.results46, go_sem, hrr _ hE]) rfl ⟨_, by rw [Hv.out], by rw [(kv_no Hv.out l 0).1, (kv_no Hv.out l _).2.1, (kv_no Hv.out l _).2.2]; exact OwnK2.none _ _, hE0.trans (Ext.setCell (Ext.setCell (Ext.setCell (hAc.trans hE) (Nat.le_refl _) _) (Nat.le_refl _) _) (Nat.le_refl _) _)⟩
    · have HB : Hid (rmB l n m x = (if n.toNat.testBit x.toNat then true else false)) := Lib.hid (by unfold rmB; rw [hk, hx]; cases n.toNat.testBit x.toNat <;> rfl)
      obtain ⟨a, rfl, ha1, ha2, hgr, hmt, hsa⟩ := keptB_nat hk
      obtain ⟨x, rfl, hx2, -⟩ := hasB_nat hx
      have hob := ord_bd hgr
      have HS : Hid (rmS (a : Int) (x : Int) = andN a (2 ^ x)) := Lib.hid rfl
      have Hgr := Lib.hid hgr
      have Hmt := Lib.hid hmt
      have hsh := ishr_nat (a := a) (n := x) (by omega)
      clear hgr hmt
      cases hb : a.testBit x
      all_goals
        have hbv := bit_val ha2 hb
        simp only [if_true, if_false, Bool.false_eq_true] at hbv
      skip
      · have Hv : Hid (rmB l a m x = false) := Lib.hid (by rw [HB.out]; simp [hb])
        go_enter Try.func46, Try.ntmps46
        go_wp2_with fail
        rw [← Hwb.out, ← Hwc.out]; rw [Hsz.out]
        go_wp2_with (first | (go_at_call 51; refine (sIsKept_val _ _ _ _ _ (⟨_, _, rfl, hgc _ hE, hg2c _ hE⟩) (hk)).mono ?_; rintro e w' ⟨rfl, hE'⟩; replace hE := hE.trans hE'; clear hE') | (go_at_call 140; refine (l2Is_val _ _ _ _ (hgc _ hE) hx).mono ?_; rintro e w' ⟨rfl, hE'⟩; replace hE := hE.trans hE'; clear hE'))
        exact bodyPost_ret (v := .tuple #[.agg #[.slice none 0 0, .int .i64 0, .slice none 0 0], .bool false]) (by simp [results, Try.results46, go_sem, hrr _ hE]) rfl ⟨_, by rw [Hv.out], by rw [(kv_no Hv.out l 0).1, (kv_no Hv.out l _).2.1, (kv_no Hv.out l _).2.2]; exact OwnK2.none _ _, hE0.trans (Ext.setCell (Ext.setCell (Ext.setCell (hAc.trans hE) (Nat.le_refl _) _) (Nat.le_refl _) _) (Nat.le_refl _) _)⟩
      · have Hv : Hid (rmB l a m x = true) := Lib.hid (by rw [HB.out]; simp [hb])
        have hs1 := ishl_one (n := x) (by omega)
        have hpx := pw_le (show x ≤ 24 by omega)
        obtain ⟨s, hsd⟩ : ∃ s, s = andN a (2 ^ x) := ⟨_, rfl⟩; have hsb : s < 2 ^ ord l := (by rw [hsd]; exact andN_lt ha1); have hs2 : IntKind.i64.wrap ((a : Int) - ((pw x : Nat) : Int)) = (s : Int) := (by have e : (a : Int) - ((pw x : Nat) : Int) = (s : Int) := (by have h1 := andN_sub 24 a (2 ^ x) ha2; have h2 : a &&& 2 ^ x = 2 ^ x := and_pow hb; rw [h2] at h1; rw [hsd, pw_eq]; omega); rw [e]; exact IntWalk.i64_in _ (by have := andN_lt (b := 2 ^ x) ha2; omega)); have Htab : Hid (chgF l x (-1) m (elems (andN a (2 ^ x))) = tabN l s s) := Lib.hid (by rw [Hmt.out, hsd]; exact tab_take Hgr.out (by omega) hb); rw [← hsd] at HS; clear hsd
        rw [Hv.out, HS.out]
        have hsl : s < 2 ^ 24 := Nat.lt_of_lt_of_le hsb (pow_ord Hgr.out)
        rw [(kv_yes rfl l s).1, (kv_yes rfl l s).2.1, (kv_yes rfl l s).2.2]
        have hml : Hid (m.length = ord l) := Lib.hid (by rw [Hmt.out, tabN_len])
        have hbd : Hid (∀ i, 0 ≤ nth m i ∧ nth m i ≤ 576) := Lib.hid (fun i => by rw [Hmt.out]; exact tabN_bd Hgr.out a a i)
        go_enter Try.func46, Try.ntmps46
        go_wp2_with fail
        rw [← Hwb.out, ← Hwc.out]; rw [Hsz.out]
        go_wp2_with (first | (go_at_call 51; refine (sIsKept_val _ _ _ _ _ (⟨_, _, rfl, hgc _ hE, hg2c _ hE⟩) (hk)).mono ?_; rintro e w' ⟨rfl, hE'⟩; replace hE := hE.trans hE'; clear hE') | (go_at_call 140; refine (l2Is_val _ _ _ _ (hgc _ hE) hx).mono ?_; rintro e w' ⟨rfl, hE'⟩; replace hE := hE.trans hE'; clear hE'))
        refine (l30Change_any _ l m a x (-1) _ ⟨v, u, rfl, hgc _ hE, hg2c _ hE⟩ Hgr ha1 hx2 hml.out (by decide) hbd.out).mono ?_
        rintro e w1 ⟨ao, co, ap, cp, rfl, hK, hE1⟩
        rw [Htab.out] at hK
        obtain ⟨v1, u1, e1, hO1, hO2, hd⟩ := hK
        simp only [Value.agg.injEq, Array.mk.injEq, List.cons.injEq, and_true, true_and] at e1
        obtain ⟨rfl, rfl⟩ := e1
        have hEb := hE
        have hwE : wb.heap.size < _ := Nat.lt_of_lt_of_le hwc hE.size
        have n1 := hO1.ne_of (b := w1.heap.size) (Or.inr (Nat.le_refl _))
        have n2 := hO2.ne_of (b := w1.heap.size) (Or.inr (Nat.le_refl _))
        have Hn12 := Lib.hid (And.intro n1 n2)
        have hwl : wb.heap.size < w1.heap.size := Nat.lt_of_lt_of_le hwE hE1.size
        obtain ⟨wD, hwD⟩ : ∃ wD, wD = w1.alloc (.cells #[.slice ao l.length co, .int .i64 a, .slice ap m.length cp] 48) := ⟨_, rfl⟩
        have hDx : Ext w1 wD := by rw [hwD]; exact (Ext.refl _).alloc _
        have BD : Blk wD w1.heap.size 48 #[.slice ao l.length co, .int .i64 a, .slice ap m.length cp] := by rw [hwD]; exact Blk.new _ _ _
        replace hO1 := hO1.ext hDx
        replace hO2 := hO2.ext hDx
        replace hE := hE.trans (hE1.trans hDx)
        have k1 := c1 _ hE
        rw [hwD] at k1
        have HwD := Lib.hid hwD
        have Hd := Lib.hid hd
        clear hwD hk hx hb n1 n2 hd hbv
        go_wp2_with fail
        rw [← HwD.out]
        clear k1
        have k1 := c1 _ hE
        have z0 := BD.cell (i := 0) rfl
        have z1 := BD.cell (i := 1) rfl
        have z2 := BD.cell (i := 2) rfl
        have f1 := BD.free 1
        go_still_tail 6, (by kernel_rfl)
        change wpList _ _ _ _ _ (World.drew _)
        obtain ⟨wd, hwd⟩ : ∃ wd, wd = World.drew wD := ⟨_, rfl⟩
        have hnd : Ext wD wd := by rw [hwd]; exact (Ext.refl _).drew
        rw [← hwd]
        clear hwd z0 z1 z2 f1 k1
        replace hO1 := hO1.ext hnd
        replace hO2 := hO2.ext hnd
        replace BD := BD.ext hnd
        replace hE := hE.trans hnd
        have z0 := BD.cell (i := 0) (v := .slice ao l.length co) rfl
        have z1 := BD.cell (i := 1) (v := .int .i64 a) rfl
        have z2 := BD.cell (i := 2) (v := .slice ap m.length cp) rfl
        have f1 := BD.free 1
        have hne : ¬ wb.heap.size = w1.heap.size := by omega
        have hne' : ¬ w1.heap.size = wb.heap.size := by omega
        have hr := hrr _ hE
        go_wp2_with fail
        exact bodyPost_ret (v := .tuple #[.agg #[.slice ao l.length co, .int .i64 s, .slice ap m.length cp], .bool true]) (by simp [results, Try.results46, go_sem, hr]) rfl ⟨_, rfl, ⟨_, _, rfl,
          (show Own 3 _ _ _ _ by (repeat (first | refine Own.setCell_below ?_ hwE _ | refine Own.setCell_ne ?_ Hn12.out.1 _)); exact hO1).mono (hE0.trans (hAc.trans hEb)),
          (show Own 3 _ _ _ _ by (repeat (first | refine Own.setCell_below ?_ hwE _ | refine Own.setCell_ne ?_ Hn12.out.2 _)); exact hO2).mono (hE0.trans (hAc.trans hEb)), Hd.out⟩,
          hE0.trans (by (repeat (refine Ext.setCell ?_ (by first | exact Nat.le_refl _ | (simp only []; omega)) _)); exact hAc.trans hE)⟩
end Go.Zz

/- RadoNumber of the program. -/
namespace Go.Zz
open Go.RowKit Go.Proofs
set_option maxHeartbeats 2000000
set_option maxRecDepth 8000

/-- the first i bits of m, then zeros: n in all -/
def flI (n m i : Nat) : List Int := (List.range n).map (fun j => if j < i then ((m.testBit j).toNat : Int) else 0)
theorem flI_len (n m i : Nat) : (flI n m i).length = n := by simp [flI]
theorem flI_nth {n m i j : Nat} (h : j < n) : nth (flI n m i) j = if j < i then ((m.testBit j).toNat : Int) else 0 := by simp [flI, nth, List.getD, h]
theorem flI_zero (n m : Nat) : flI n m 0 = List.replicate n 0 := by
  refine ext_nth (by simp [flI_len]) fun j hj => ?_
  rw [flI_len] at hj
  rw [flI_nth hj, nth_zeros]; rfl
theorem flI_all (n m : Nat) : flI n m n = bitsI n m := by
  refine ext_nth (by rw [flI_len, bitsI_len]) fun j hj => ?_
  rw [flI_len] at hj
  rw [flI_nth hj, if_pos hj]
  simp [bitsI, nth, List.getD, hj]
theorem flI_set {n m i : Nat} (h : i < n) : (flI n m i).set i ((m.testBit i).toNat : Int) = flI n m (i + 1) := by
  refine ext_nth (by simp [flI_len]) fun j hj => ?_
  rw [List.length_set, flI_len] at hj
  rw [flI_nth hj]
  have e : nth ((flI n m i).set i ((m.testBit i).toNat : Int)) j = if j = i then ((m.testBit i).toNat : Int) else nth (flI n m i) j := by
    unfold nth
    simp only [List.getD_eq_getElem?_getD, List.getElem?_set]
    by_cases q : j = i
    · subst q; simp [flI_len, h]
    · have q' : ¬ i = j := fun e => q e.symm
      simp [q, q']
  rw [e]
  by_cases q : j = i
  · subst q; simp
  · rw [if_neg q, flI_nth hj]
    by_cases q2 : j < i
    · rw [if_pos q2, if_pos (by omega)]
    · rw [if_neg q2, if_neg (by omega)]
theorem RadoNumber_any (u : Value) (c : List Int) (w : World) (hu : Ints w u c) :
    Calls Try.prog 136 #[u, .int .i64 2] w fun e w' => e = .returned (.int .i64 (radN c)) ∧ Ext w w' := by
  have cE := fun W (hW : Ext w W) => isEquation_any u c W (hu.ext hW)
  have HU := Lib.hid hu
  obtain ⟨ao, co, rfl, -⟩ := hu
  cases he : eqB c
  · have Hr := Lib.hid (rad_no (c := c) (Or.inl he))
    rw [he] at cE
    go_enter Try.func136, Try.ntmps136
    go_wp2_with fail
    refine (cE _ (Ext.refl _)).mono ?_
    rintro e w1 ⟨rfl, hE1⟩
    go_wp2_with fail
    go_ret
    exact ⟨ret_int Hr.out.symm, hE1⟩
  · rw [he] at cE
    have h24 := eqB_yes he
    by_cases h3 : c.length ≤ 3
    rotate_left
    · have Hr := Lib.hid (rad_no (c := c) (Or.inr h3))
      have hq : ((c.length : Int) == 4) = true := by rw [beq_iff_eq]; omega
      go_enter Try.func136, Try.ntmps136
      go_wp2_with fail
      refine (cE _ (Ext.refl _)).mono ?_
      rintro e w1 ⟨rfl, hE1⟩
      go_wp2_with fail
      go_ret
      exact ⟨ret_int Hr.out.symm, hE1⟩
    · have hq : ((c.length : Int) == 4) = false := by rw [beq_eq_false_iff_ne]; omega
      have hin : inB (2 : Int) 1 2 = true := by decide
      have cW := fun W => within_any (2 : Int) 1 2 W
      rw [hin] at cW
      have He := Lib.hid he
      have H3 := Lib.hid h3
      have cM := fun (n m : Nat) (h1 : 1 ≤ n) (h9 : n ≤ 9) (vl : Value) (W : World) (hW : Ext w W) (hv : Ints W vl (bitsI n m)) => MonochromeSolution_yes (.slice ao c.length co) vl c (bitsI n m) W (HU.out.ext hW) hv He.out (by rw [bitsI_len]; exact h1) (by rw [bitsI_len]; omega)
      clear he h24 h3
      go_enter Try.func136, Try.ntmps136
      go_wp2_with fail
      refine (cE _ (Ext.refl _)).mono ?_
      rintro e w1 ⟨rfl, hE1⟩
      go_wp2_with (refine (cW _).mono ?_; rintro e w' ⟨rfl, rfl⟩)
      clear cE cW hin hq
      go_loopw [5] (fun sn wr => ∃ n : Nat, 1 ≤ n ∧ n ≤ 10 ∧ sn = .int .i64 n ∧ Ext w wr ∧ Hid (∀ j, j + 1 < n → allB c (j + 1) = false)) (fun sn _ => 10 - (intOf sn).toNat)
      case atStart => exact ⟨1, by omega, by omega, rfl, hE1, Lib.hid fun j hj => absurd hj (by omega)⟩
      case round =>
        clear hE1
        rename World => wr
        obtain ⟨n, hn1, hn2, rfl, hE, HN⟩ := hrel
        by_cases h9 : n ≤ 9
        · have h9I : (n : Int) ≤ 9 := by omega
          have hp9 : pw n ≤ 512 := by
            have : pw n ≤ 2 ^ 9 := Nat.pow_le_pow_right (by omega) h9
            omega
          have hsh := ishl_one (n := n) (by omega)
          go_wp2_with fail
          go_loopw [6, 7] (fun sa sm wq => ∃ (b : Bool) (m : Nat), m ≤ pw n ∧ sa = .bool b ∧ sm = .int .i64 m ∧ Ext w wq ∧ Hid ((b = true → ∀ j, j < m → monoB c (bitsI n j) = true) ∧ (b = false → ∃ j, j < pw n ∧ monoB c (bitsI n j) = false))) (fun _ sm _ => pw n - (intOf sm).toNat)
          case atStart => exact ⟨true, 0, by omega, rfl, rfl, hE, Lib.hid ⟨fun _ j hj => absurd hj (by omega), fun h => by cases h⟩⟩
          case round =>
            clear hE
            rename World => wq
            obtain ⟨b, m, hm, rfl, rfl, hE, HB⟩ := hrel
            cases b
            · obtain ⟨j, hj1, hj2⟩ := HB.out.2 rfl
              have Hf := Lib.hid (allB_no hj1 hj2)
              clear hj1 hj2 HB
              go_wp2_with fail
              go_roundw
              case rel => exact ⟨n + 1, by omega, by omega, by go_num, hE, Lib.hid fun i hi => by by_cases q : i + 1 = n; (rw [q]; exact Hf.out); exact HN.out i (by omega)⟩
              case measure => (simp [intOf]; omega)
            · by_cases hmp : m < pw n
              · have hmI : (m : Int) < ((pw n : Nat) : Int) := by omega
                have HB1 := Lib.hid (HB.out.1 rfl)
                clear HB
                go_wp2_with (at_make; refine wp_make_ints slI rfl _ _ rfl w _ n rfl rfl (by omega) hE ?_; intro w2 hO hE2)
                obtain ⟨g, hgd⟩ : ∃ g, g = wq.heap.size := ⟨_, rfl⟩
                rw [← hgd] at hO ⊢
                clear hgd
                rw [← flI_zero n m] at hO
                have hixO := row_index g n n
                clear hE
                go_loopw [9, 40] (fun s9 s40 wz => ∃ i : Nat, i ≤ n ∧ s40 = .int .i64 i ∧ Own 3 w wz (.slice (some ⟨g, 0, none⟩) n n) (flI n m i) ∧ Ext w wz) (fun _ s40 _ => n - (intOf s40).toNat)
                case atStart => exact ⟨0, by omega, rfl, hO, hE2⟩
                case round =>
                  clear hO hE2
                  rename World => wz
                  obtain ⟨i, hi, rfl, hO, hE⟩ := hrel
                  by_cases hin : i < n
                  · have hinI : (i : Int) < (n : Int) := by omega
                    obtain ⟨hc1, hf1⟩ := hO.cellAt (flI_len n m i) hin
                    have hq1 := ishr_nat (a := m) (n := i) (by omega)
                    have hq2 : iand ((shr m i : Nat) : Int) 1 = ((m.testBit i).toNat : Int) := by
                      rw [bit_val (b := m.testBit i) (by omega) rfl]; cases m.testBit i <;> rfl
                    obtain ⟨hO1, -⟩ := hO.stored_grown (flI_len n m i) i ((m.testBit i).toNat : Int)
                    rw [flI_set hin] at hO1
                    have hgb := (hO.blk g rfl).1
                    have hE1 := hE.setCell (p := ⟨g, i, none⟩) hgb (.int .i64 ((m.testBit i).toNat : Int))
                    obtain ⟨bt, hbt⟩ : ∃ x : Int, x = ((m.testBit i).toNat : Int) := ⟨_, rfl⟩
                    rw [← hbt] at hq2 hO1 hE1
                    have hixi := hixO i
                    clear hbt
                    go_wp2_with fail
                    go_roundw
                    case rel => exact ⟨i + 1, by omega, by go_num, hO1, hE1⟩
                    case measure => (simp [intOf]; omega)
                  · have hin2 : i = n := by omega
                    subst hin2
                    rw [flI_all] at hO
                    go_wp2_with (go_at_call 222; refine (cM i m hn1 h9 _ _ hE hO.ints).mono ?_; rintro e w5 ⟨v5, rfl, hE5⟩)
                    go_roundw
                    case rel => exact ⟨monoB c (bitsI i m), m + 1, by omega, rfl, by go_num, hE.trans hE5, Lib.hid ⟨fun hb j hj => by by_cases q : j = m; (rw [q]; exact hb); exact HB1.out j (by omega), fun hb => ⟨m, hmp, hb⟩⟩⟩
                    case measure => (simp [intOf]; omega)
              · have hmI : ¬ (m : Int) < ((pw n : Nat) : Int) := by omega
                have Ha := Lib.hid (allB_yes (c := c) (n := n) fun j hj => HB.out.1 rfl j (by omega))
                have Hr : Hid (radN c = (n : Int)) := Lib.hid (by
                  have := rad_at He.out H3.out (n := n - 1) (by omega) (fun j hj => HN.out j (by omega)) (by rw [show n - 1 + 1 = n by omega]; exact Ha.out)
                  rw [this]; omega)
                go_wp2_with fail
                go_ret
                exact ⟨ret_int Hr.out.symm, hE⟩
        · have h9I : ¬ (n : Int) ≤ 9 := by omega
          have Hr := Lib.hid (rad_none He.out H3.out fun j hj => HN.out j (by omega))
          go_wp2_with fail
          go_ret
          exact ⟨ret_int Hr.out.symm, hE⟩
end Go.Zz

/- Columns with the sum 0: the reference. -/
namespace Go.Zz
open Go.RowKit Go.Proofs
set_option maxHeartbeats 1000000
set_option maxRecDepth 8000

theorem sZeroColumns_any (u : Value) (c : List Int) (w : World) (hu : Ints w u c) :
    Calls Try.prog 127 #[u] w fun e w' => ∃ v', e = .returned (.tuple #[v', .bool (zcB c)]) ∧ Own 3 w w' v' (castL (zcL c)) ∧ Ext w w' := by
  have cE := fun W (hW : Ext w W) => l25Fine_any u c W (hu.ext hW)
  obtain ⟨ao, cc, adr, rfl, hlen, hadr, hcell⟩ := hu.op
  have hix := ints_index (c := cc) elI szI hadr
  have Hcell := Lib.hid hcell
  clear hadr hu hcell
  have hE := Ext.refl w
  cases he : eqB c
  · have Hz := Lib.hid (zc_no he)
    rw [he] at cE
    have HW : ∀ (wr : World), wr = w → True := fun _ _ => trivial
    go_enter Try.func127, Try.ntmps127
    go_wp2_with fail
    go_loopw [4] (fun sm wr => sm = .int .i64 1 ∧ Ext w wr) (fun _ _ => 0)
    case atStart => exact ⟨rfl, hE⟩
    case round =>
      clear hE
      rename World => wr
      obtain ⟨rfl, hE⟩ := hrel
      by_cases hlt : (1 : Int) < ishl 1 (c.length : Int)
      · go_wp2_with (refine (cE _ hE).mono ?_; rintro e w2 ⟨rfl, hE2⟩)
        have hEf := hE.trans hE2
        rw [Hz.out.1, Hz.out.2]
        exact bodyPost_ret (v := .tuple #[.slice (some ⟨w2.heap.size, 0, none⟩) 0 0, .bool false]) (by simp [results, Try.results127, go_sem]) rfl ⟨_, rfl, own_made (TI := 3) (n := 0) (by omega) hEf [] rfl, Ext.alloc hEf _⟩
      · go_wp2_with fail
        rw [Hz.out.1, Hz.out.2]
        exact bodyPost_ret (v := .tuple #[.slice (some ⟨wr.heap.size, 0, none⟩) 0 0, .bool false]) (by simp [results, Try.results127, go_sem]) rfl ⟨_, rfl, own_made (TI := 3) (n := 0) (by omega) hE [] rfl, Ext.alloc hE _⟩
  have hcl := eqB_yes he
  have h4 : c.length ≤ 4 := hcl.2.1
  have hpw4 : pw c.length ≤ 16 := Nat.pow_le_pow_right (n := 2) (by omega) h4
  have hpw1 := pw_pos c.length
  have hs1 := ishl_one (n := c.length) (by omega)
  have He := Lib.hid he
  rw [he] at cE
  clear he hcl
  go_enter Try.func127, Try.ntmps127
  go_wp2_with fail
  go_loopw [4] (fun sm wr => ∃ m : Nat, 1 ≤ m ∧ m ≤ pw c.length ∧ sm = .int .i64 m ∧ Hid (∀ j, 1 ≤ j → j < m → ¬ sumI (partI c j) = 0) ∧ Ext w wr) (fun sm _ => pw c.length - (intOf sm).toNat)
  case atStart => exact ⟨1, by omega, by omega, rfl, Lib.hid (by omega), hE⟩
  case round =>
    clear hE
    rename World => wr
    obtain ⟨m, hm1, hm2, rfl, H, hE⟩ := hrel
    by_cases hlt : m < pw c.length
    · have hltI : (m : Int) < (pw c.length : Int) := by omega
      have hm24 : m < 2 ^ 24 := by omega
      go_wp2_with (refine (cE _ hE).mono ?_; rintro e w2 ⟨rfl, hE2⟩)
      have hE02 := hE.trans hE2
      clear cE
      go_loopw [5, 6] (fun ss sk wq => ∃ k : Nat, k ≤ c.length ∧ sk = .int .i64 k ∧ ss = .int .i64 (sumI (partTo c m k)) ∧ Ext w2 wq) (fun _ sk _ => c.length - (intOf sk).toNat)
      case atStart => exact ⟨0, by omega, rfl, rfl, Ext.refl _⟩
      case round =>
        rename World => wq
        obtain ⟨k, hk, rfl, rfl, hEq⟩ := hrel
        have hb := sumP_bd He.out m k (by omega)
        by_cases hkl : k < c.length
        · have hck := Hcell.out k wq hkl (hE02.trans hEq)
          have hy := cof_bd He.out k
          have hsh := ishr_nat (a := m) (n := k) (by omega)
          have hbt := bit_test' (a := m) (n := k) (by omega) (by omega)
          cases hbit : m.testBit k
          · have hn : Hid (sumI (partTo c m (k + 1)) = sumI (partTo c m k)) := Lib.hid (by rw [partTo_no hbit])
            rw [hbit] at hbt
            obtain ⟨S, hS⟩ : ∃ S, S = sumI (partTo c m k) := ⟨_, rfl⟩
            rw [← hS] at hb hn
            rw [← hS]
            clear hS hbit
            go_wp2_with fail
            go_roundw
            case rel => exact ⟨k + 1, by omega, by go_num, by rw [hn.out], hEq⟩
            case measure => (simp [intOf]; omega)
          · have hn : Hid (sumI (partTo c m (k + 1)) = sumI (partTo c m k) + nth c k) := Lib.hid (by rw [partTo_yes hbit, sumI_snoc])
            rw [hbit] at hbt
            obtain ⟨Y, hY⟩ : ∃ Y, Y = nth c k := ⟨_, rfl⟩
            obtain ⟨S, hS⟩ : ∃ S, S = sumI (partTo c m k) := ⟨_, rfl⟩
            rw [← hY] at hck hy hn
            rw [← hS] at hb hn
            rw [← hS]
            have hw : IntKind.i64.wrap (S + Y) = S + Y := IntWalk.i64_in _ (by omega)
            clear hY hS hbit
            go_wp2_with fail
            go_roundw
            case rel => exact ⟨k + 1, by omega, by go_num, by rw [hn.out], hEq⟩
            case measure => (simp [intOf]; omega)
        · have hkl2 : k = c.length := by omega
          subst hkl2
          have hEf := hE02.trans hEq
          have hP : partTo c m c.length = partI c m := rfl
          rw [hP] at hb
          rw [hP]
          clear hP
          by_cases hz : sumI (partI c m) = 0
          · have Hz := Lib.hid (zc_at He.out hlt hm1 H.out hz)
            rw [hz]
            clear hz
            go_wp2_with (go_at_call 174; refine (l3List_any m hm24 _).mono ?_; rintro e w3 ⟨v3, rfl, hO3, hE3⟩)
            rw [Hz.out.1, Hz.out.2]
            exact bodyPost_ret (v := .tuple #[v3, .bool true]) (by simp [results, Try.results127, go_sem]) rfl ⟨_, rfl, hO3.mono hEf, hEf.trans hE3⟩
          · have hzq : (sumI (partI c m) == 0) = false := by rw [beq_eq_false_iff_ne]; exact hz
            have Hz : Hid (¬ sumI (partI c m) = 0) := Lib.hid hz
            clear hz
            go_wp2_with fail
            go_roundw
            case rel => exact ⟨m + 1, by omega, by omega, by go_num, Lib.hid fun j h1 h2 => by by_cases e : j = m; (subst e; exact Hz.out); exact H.out j h1 (by omega), hEf⟩
            case measure => (simp [intOf]; omega)
    · have Hz := Lib.hid (zc_none He.out fun j h1 h2 => H.out j h1 (by omega))
      have hltI : ¬ (m : Int) < (pw c.length : Int) := by omega
      go_wp2_with fail
      rw [Hz.out.1, Hz.out.2]
      exact bodyPost_ret (v := .tuple #[.slice (some ⟨wr.heap.size, 0, none⟩) 0 0, .bool false]) (by simp [results, Try.results127, go_sem]) rfl ⟨_, rfl, own_made (TI := 3) (n := 0) (by omega) hE [] rfl, Ext.alloc hE _⟩
end Go.Zz

/- Solutions in numbers of one color: the search of the reference. -/
namespace Go.Zz
open Go.RowKit Go.Proofs
set_option maxHeartbeats 2000000
set_option maxRecDepth 8000

theorem l25Find_any (c cs : List Int) (n : Nat) (He : Hid (eqB c = true)) (hn : n ≤ 12) (hcs : cs = [] ∨ n ≤ cs.length) :
    ∀ r (X : List Nat) (most : Nat) (w : World) (vc vs vx : Value), Ints w vc c → Ints w vs cs → Ints w vx (castL X) → X.length + r = c.length → (∀ x ∈ X, 1 ≤ x ∧ x ≤ n) → 1 ≤ most → most ≤ 10000 →
    Calls Try.prog 216 #[vc, .int .i64 n, vs, vx, .int .i64 most] w fun e w' => ∃ v', e = .returned v' ∧ OwnV w w' v' (min (cntF c n cs r X) most) ∧ Ext w w' := by
  have h4 := (eqB_yes He.out).2.1
  intro r
  induction r with
  | zero =>
    intro X most w vc vs vx hc hs hx hr hX hm1 hm2
    have hX12 : ∀ x ∈ X, x ≤ 12 := fun x hx => by have := hX x hx; omega
    obtain ⟨aoc, cc, adrc, rfl, -, hadrc, hcellc⟩ := hc.op
    obtain ⟨aox, cx, adrx, rfl, hadrx, hcellx⟩ := hx.nats
    obtain ⟨aos, css, rfl, -⟩ := hs
    have hixc := ints_index (c := cc) elI szI hadrc
    have hixx := ints_index (c := cx) elI szI hadrx
    have Hc := Lib.hid hcellc
    have Hx := Lib.hid hcellx
    have hq : ((X.length : Int) == (c.length : Int)) = true := by rw [beq_iff_eq]; omega
    clear hadrc hcellc hadrx hcellx hc hx
    have Hr := Lib.hid hr
    have HX := Lib.hid hX
    clear hX
    go_enter Try.func216, Try.ntmps216
    go_wp2_with fail
    go_loopw [11, 12] (fun ss si wr => ∃ k : Nat, k ≤ c.length ∧ si = .int .i64 k ∧ ss = .int .i64 (dotTo c X k) ∧ Ext w wr) (fun _ si _ => c.length - (intOf si).toNat)
    case atStart => exact ⟨0, by omega, rfl, rfl, Ext.refl _⟩
    case round =>
      rename World => wr
      obtain ⟨k, hk, rfl, rfl, hE0⟩ := hrel
      by_cases hlt : k < c.length
      · have hltI : (k : Int) < (c.length : Int) := by omega
        have hkX : k < X.length := by omega
        have hckU := fun U => Hc.out k (Lat wr U) hlt (hE0.trans (lat_ext wr U))
        have hcxU := fun U => Hx.out k (Lat wr U) hkX (hE0.trans (lat_ext wr U))
        have hyb := HX.out _ (nthN_mem hkX)
        have hcb := cof_bd He.out k
        have hmb := mul_bd (a := nth c k) (y := nthN X k) hcb.1 hcb.2 (by omega)
        have hdb := dotTo_bd He.out hX12 k (by omega)
        have Hn : Hid (dotTo c X (k + 1) = dotTo c X k + nth c k * (nthN X k : Int)) := Lib.hid rfl
        obtain ⟨D, hD⟩ : ∃ D, D = dotTo c X k := ⟨_, rfl⟩
        obtain ⟨A, hA⟩ : ∃ D, D = nth c k := ⟨_, rfl⟩
        obtain ⟨Y, hY⟩ : ∃ D : Int, D = (nthN X k : Int) := ⟨_, rfl⟩
        obtain ⟨P, hP⟩ : ∃ D : Int, D = A * Y := ⟨_, rfl⟩
        rw [← hD] at hdb Hn ⊢
        rw [← hA] at hckU hmb Hn
        rw [← hY] at hcxU hmb Hn
        rw [← hP] at hmb Hn
        have hw1 : IntKind.i64.wrap (A * Y) = P := by rw [← hP]; exact IntWalk.i64_in _ (by omega)
        have hw2 : IntKind.i64.wrap (D + P) = D + P := IntWalk.i64_in _ (by omega)
        have hixck := hixc k
        have hixxk := hixx k
        clear hD hA hY hP hyb hcb
        have HE0 := Lib.hid hE0
        clear hE0
        have hE := Ext.refl wr
        go_wp2_with fail
        (refine wp_region_lat (wr) (by kernel_rfl) (by kernel_rfl) hE ?_); (repeat (go_big_quiet_step (first | (fail "no call")))); (refine wpQuiet_nil ?_); (intro W hE'); (replace hE := lat_of hE'); (clear hE')
        go_wp2_with fail
        go_roundw
        case rel => exact ⟨k + 1, by omega, by go_num, by rw [Hn.out], HE0.out.trans hE⟩
        case measure => (simp [intOf]; omega)
      · have hkl : k = X.length := by omega
        subst hkl
        have hltI : ¬ ((X.length : Nat) : Int) < (c.length : Int) := by omega
        by_cases hz : dotL c X = 0
        · have hz' : dotTo c X X.length = 0 := hz
          have Hn : Hid (min (cntF c n cs 0 X) most = 1) := Lib.hid (by rw [cntF_yes hz]; omega)
          rw [hz']
          clear hz hz'
          go_wp2_with fail
          go_ret
          exact ⟨_, rfl, by rw [Hn.out]; exact ownV_one hE0 _ _ _, hE0.alloc _⟩
        · have hzq : (dotTo c X X.length == 0) = false := by rw [beq_eq_false_iff_ne]; exact hz
          have Hn : Hid (min (cntF c n cs 0 X) most = 0) := Lib.hid (by rw [cntF_no hz]; omega)
          clear hz
          go_wp2_with fail
          go_ret
          exact ⟨_, rfl, by rw [Hn.out]; exact ownV_made hE0, hE0.alloc _⟩
  | succ r ih =>
    intro X most w vc vs vx hc hs hx hr hX hm1 hm2
    have HC := Lib.hid hc
    have HS := Lib.hid hs
    have HXi := Lib.hid hx
    obtain ⟨aoc, cc, rfl, -⟩ := hc
    obtain ⟨aox, cx, adrx, rfl, hadrx, hcellx⟩ := hx.nats
    obtain ⟨aos, css, adrs, rfl, -, hadrs, hcells⟩ := hs.op
    have hixs := ints_index (c := css) elI szI hadrs
    have hixx := ints_index (c := cx) elI szI hadrx
    have Hs := Lib.hid hcells
    have Hx := Lib.hid hcellx
    have hq : ((X.length : Int) == (c.length : Int)) = false := by rw [beq_eq_false_iff_ne]; omega
    clear hadrs hcells hadrx hcellx hs
    have Hr := Lib.hid hr
    have HX := Lib.hid hX
    have Hih := Lib.hid ih
    clear hX ih hx
    have hO0 : OwnV w (w.alloc (.cells #[] 24)) (.slice (some ⟨w.heap.size, 0, none⟩) 0 0) 0 := ownV_made (Ext.refl w)
    have hE0 := (Ext.refl w).alloc (.cells #[] 24)
    go_enter Try.func216, Try.ntmps216
    go_wp2_with fail
    go_loopw [13, 14] (fun so sy wr => ∃ (q : Nat) (ao : Option Addr) (co : Nat), 1 ≤ q ∧ q ≤ n + 1 ∧ sy = .int .i64 q ∧ so = .slice ao (min (cntK c n cs r X (q - 1)) most) co ∧ OwnV w wr (.slice ao (min (cntK c n cs r X (q - 1)) most) co) (min (cntK c n cs r X (q - 1)) most) ∧ Ext w wr) (fun _ sy _ => n + 1 - (intOf sy).toNat)
    case atStart => exact ⟨1, some ⟨w.heap.size, 0, none⟩, 0, by omega, by omega, rfl, by rw [show 1 - 1 = 0 from rfl, cntK_zero]; simp, by rw [show 1 - 1 = 0 from rfl, cntK_zero]; simpa using hO0, hE0⟩
    case round =>
      clear hO0 hE0
      rename World => wr
      obtain ⟨q, ao, co, hq1, hq2, rfl, rfl, hO, hE⟩ := hrel
      have HK := Lib.hid (fun d => cntK_mono c n cs r X (q - 1) d)
      obtain ⟨K, hKd⟩ : ∃ K, K = cntK c n cs r X (q - 1) := ⟨_, rfl⟩
      rw [← hKd] at hO HK ⊢
      have HKd := Lib.hid hKd
      clear hKd
      obtain ⟨M, hMd⟩ : ∃ M, M = min K most := ⟨_, rfl⟩
      rw [← hMd] at hO ⊢
      have hMm : M ≤ most := by omega
      have HMd := Lib.hid hMd
      clear hMd
      by_cases hle : q ≤ n
      · have hleI : (q : Int) ≤ (n : Int) := by omega
        by_cases hlm : M < most
        · have hlmI : (M : Int) < (most : Int) := by omega
          have HKM : Hid (K = M) := Lib.hid (by have := HMd.out; omega)
          have hwy : IntKind.i64.wrap ((q : Int) - 1) = ((q - 1 : Nat) : Int) := by rw [show (q : Int) - 1 = ((q - 1 : Nat) : Int) by omega]; exact IntWalk.i64_in _ (by omega)
          have HO := Lib.hid hO
          clear hO
          cases hok : okC cs X q
          · -- another color
            have HKn : Hid (cntK c n cs r X q = K) := Lib.hid (by
              have := cntK_no (c := c) (n := n) (cs := cs) (r := r) (X := X) (k := q - 1) (by rw [show q - 1 + 1 = q by omega]; exact hok)
              rw [show q - 1 + 1 = q by omega] at this; rw [this, HKd.out])
            have hcond : cs ≠ [] ∧ X ≠ [] ∧ nth cs (q - 1) ≠ nth cs (nthN X 0 - 1) := by
              unfold okC at hok
              rw [Bool.or_eq_false_iff, Bool.or_eq_false_iff, decide_eq_false_iff_not] at hok
              exact ⟨fun e => by rw [e] at hok; simp at hok, fun e => by rw [e] at hok; simp at hok, hok.2⟩
            obtain ⟨hcn, hXn, hne⟩ := hcond
            have hcl : 0 < cs.length := List.length_pos_iff.2 hcn
            have hXl : 0 < X.length := List.length_pos_iff.2 hXn
            have hncs : n ≤ cs.length := by rcases hcs with h | h; exact absurd h hcn; exact h
            have h0 := HX.out _ (nthN_mem hXl)
            have hclI : (0 : Int) < (cs.length : Int) := by omega
            have hXlI : (0 : Int) < (X.length : Int) := by omega
            have hsU := fun U => Hs.out (q - 1) (Lat wr U) (by omega) (hE.trans (lat_ext wr U))
            have hs0U := fun U => Hs.out (nthN X 0 - 1) (Lat wr U) (by omega) (hE.trans (lat_ext wr U))
            have hxU := fun U => Hx.out 0 (Lat wr U) hXl (hE.trans (lat_ext wr U))
            have hix0 : ∀ W, (Instr.indexAt 24 (.slice aox X.length cx) (.int .i64 0)).run Try.prog W = .ok (.pointer (some (adrx 0))) W := fun W => hixx 0 W hXl
            have hw0 : IntKind.i64.wrap ((nthN X 0 : Int) - 1) = ((nthN X 0 - 1 : Nat) : Int) := by rw [show (nthN X 0 : Int) - 1 = ((nthN X 0 - 1 : Nat) : Int) by omega]; exact IntWalk.i64_in _ (by omega)
            have hixq := fun W => hixs (q - 1) W (by omega)
            have hixz := fun W => hixs (nthN X 0 - 1) W (by omega)
            have hqne : (nth cs (q - 1) != nth cs (nthN X 0 - 1)) = true := by rw [bne_iff_ne]; exact hne
            have HE := Lib.hid hE
            clear hE hok hne hcn hXn
            have hE := Ext.refl wr
            go_wp2_with fail
            (refine wp_region_lat (wr) (by kernel_rfl) (by kernel_rfl) hE ?_); (repeat (go_big_quiet_step (first | (fail "no call")))); (refine wpQuiet_nil ?_); (intro W hE'); (replace hE := lat_of hE'); (clear hE')
            go_wp2_with fail
            go_roundw
            case rel => exact ⟨q + 1, ao, co, by omega, by omega, by go_num, by rw [show q + 1 - 1 = q by omega, HKn.out, ← HMd.out], by rw [show q + 1 - 1 = q by omega, HKn.out, ← HMd.out]; exact HO.out.ext hE, HE.out.trans hE⟩
            case measure => (simp [intOf]; omega)
          · have HKn : Hid (cntK c n cs r X q = K + cntF c n cs r (X ++ [q])) := Lib.hid (by
              have := cntK_yes (c := c) (n := n) (cs := cs) (r := r) (X := X) (k := q - 1) (by rw [show q - 1 + 1 = q by omega]; exact hok)
              rw [show q - 1 + 1 = q by omega] at this; rw [this, HKd.out])
            have Hok := Lib.hid hok
            clear hok
            have hwm : IntKind.i64.wrap ((most : Int) - (M : Int)) = ((most - M : Nat) : Int) := by rw [show (most : Int) - (M : Int) = ((most - M : Nat) : Int) by omega]; exact IntWalk.i64_in _ (by omega)
            have h4X : X.length ≤ 4 := by omega
            have hxl : ∀ x ∈ X ++ [q], 1 ≤ x ∧ x ≤ n := fun x hx => by
              rw [List.mem_append, List.mem_singleton] at hx
              rcases hx with hx | hx
              · exact HX.out x hx
              · omega
            have Hxl := Lib.hid hxl
            have Hrl : Hid ((X ++ [q]).length + r = c.length) := Lib.hid (by rw [List.length_append, List.length_singleton]; omega)
            have Hmin : Hid (M + min (cntF c n cs r (X ++ [q])) (most - M) = min (K + cntF c n cs r (X ++ [q])) most) := Lib.hid (by have := HKM.out; omega)
            clear hxl
            -- three ways to be of no other color
            by_cases hc0 : 0 < cs.length
            · have hclI : (0 : Int) < (cs.length : Int) := by omega
              by_cases hX0 : 0 < X.length
              · have hXlI : (0 : Int) < (X.length : Int) := by omega
                have hncs : n ≤ cs.length := by rcases hcs with h | h; (rw [h] at hc0; simp at hc0); exact h
                have h0 := HX.out _ (nthN_mem hX0)
                have hsm : nth cs (q - 1) = nth cs (nthN X 0 - 1) := by
                  have := Hok.out
                  unfold okC at this
                  rw [Bool.or_eq_true, Bool.or_eq_true, decide_eq_true_iff] at this
                  rcases this with (h | h) | h
                  · rw [List.isEmpty_iff] at h; rw [h] at hc0; simp at hc0
                  · rw [List.isEmpty_iff] at h; rw [h] at hX0; simp at hX0
                  · exact h
                have hsU := fun U => Hs.out (q - 1) (Lat wr U) (by omega) (hE.trans (lat_ext wr U))
                have hs0U := fun U => Hs.out (nthN X 0 - 1) (Lat wr U) (by omega) (hE.trans (lat_ext wr U))
                have hxU := fun U => Hx.out 0 (Lat wr U) hX0 (hE.trans (lat_ext wr U))
                have hix0 : ∀ W, (Instr.indexAt 24 (.slice aox X.length cx) (.int .i64 0)).run Try.prog W = .ok (.pointer (some (adrx 0))) W := fun W => hixx 0 W hX0
                have hw0 : IntKind.i64.wrap ((nthN X 0 : Int) - 1) = ((nthN X 0 - 1 : Nat) : Int) := by rw [show (nthN X 0 : Int) - 1 = ((nthN X 0 - 1 : Nat) : Int) by omega]; exact IntWalk.i64_in _ (by omega)
                have hixq := fun W => hixs (q - 1) W (by omega)
                have hixz := fun W => hixs (nthN X 0 - 1) W (by omega)
                have hqne : (nth cs (q - 1) != nth cs (nthN X 0 - 1)) = false := by rw [hsm]; simp
                have HE := Lib.hid hE
                clear hE hsm
                have hE := Ext.refl wr
                go_wp2_with fail
                (refine wp_region_lat (wr) (by kernel_rfl) (by kernel_rfl) hE ?_); (repeat (go_big_quiet_step (first | (fail "no call")))); (refine wpQuiet_nil ?_); (intro W hE'); (replace hE := lat_of hE'); (clear hE')
                have hO0 : Own 3 wr (W.alloc (.cells #[] 3)) (.slice (some ⟨W.heap.size, 0, none⟩) 0 0) [] := own_made (TI := 3) (n := 0) (by omega) hE [] rfl
                have hE00 := hE.alloc (.cells #[] 3)
                have hI0 := HXi.out.ext (HE.out.trans hE00)
                have hlen0 : ([] : List Int).length + (castL X).length ≤ 17592186044416 := by rw [castL_len]; simp; omega
                have hlen1 : (castL X).length < 17592186044416 := by rw [castL_len]; omega
                go_wp2_with (first
                  | (at_builtin; refine wp_append1 slI rfl _ _ rfl wr _ _ _ _ hO1 hE1 hlen1 rfl rfl ?_; intro v2 w2 hO2 hE2; rw [← castL_snoc] at hO2)
                  | (at_builtin; refine wp_appends slI rfl _ _ rfl wr _ _ _ _ _ hO0 hI0 hE00 hlen0 rfl rfl ?_; intro v1 w1 hO1 hE1; simp only [List.nil_append] at hO1)
                  | (go_at_call 216; refine (Hih.out _ (most - M) _ _ _ _ (HC.out.ext (HE.out.trans hE2)) (HS.out.ext (HE.out.trans hE2)) hO2.ints Hrl.out Hxl.out (by omega) (by omega)).mono ?_; rintro e w5 ⟨v5, rfl, hO5, hE5⟩)
                  | (at_builtin; refine wp_appendsV rfl _ _ rfl w _ _ _ _ _ _ (HO.out.ext (hE2.trans hE5)) hO5 (HE.out.trans (hE2.trans hE5)) (by omega) rfl rfl ?_; intro v6 w6 hO6 hE6; rw [Hmin.out, ← HKn.out] at hO6; obtain ⟨a6, c6, rfl, -⟩ := hO6.shape))
                go_roundw
                case rel => exact ⟨q + 1, a6, c6, by omega, by omega, by go_num, by rw [show q + 1 - 1 = q by omega], by rw [show q + 1 - 1 = q by omega]; exact hO6, hE6⟩
                case measure => (simp [intOf]; omega)
              · have hXlI : ¬ (0 : Int) < (X.length : Int) := by omega
                have HE := Lib.hid hE
                clear hE
                have hE := Ext.refl wr
                go_wp2_with fail
                (refine wp_region_lat (wr) (by kernel_rfl) (by kernel_rfl) hE ?_); (repeat (go_big_quiet_step (first | (fail "no call")))); (refine wpQuiet_nil ?_); (intro W hE'); (replace hE := lat_of hE'); (clear hE')
                have hO0 : Own 3 wr (W.alloc (.cells #[] 3)) (.slice (some ⟨W.heap.size, 0, none⟩) 0 0) [] := own_made (TI := 3) (n := 0) (by omega) hE [] rfl
                have hE00 := hE.alloc (.cells #[] 3)
                have hI0 := HXi.out.ext (HE.out.trans hE00)
                have hlen0 : ([] : List Int).length + (castL X).length ≤ 17592186044416 := by rw [castL_len]; simp; omega
                have hlen1 : (castL X).length < 17592186044416 := by rw [castL_len]; omega
                go_wp2_with (first
                  | (at_builtin; refine wp_append1 slI rfl _ _ rfl wr _ _ _ _ hO1 hE1 hlen1 rfl rfl ?_; intro v2 w2 hO2 hE2; rw [← castL_snoc] at hO2)
                  | (at_builtin; refine wp_appends slI rfl _ _ rfl wr _ _ _ _ _ hO0 hI0 hE00 hlen0 rfl rfl ?_; intro v1 w1 hO1 hE1; simp only [List.nil_append] at hO1)
                  | (go_at_call 216; refine (Hih.out _ (most - M) _ _ _ _ (HC.out.ext (HE.out.trans hE2)) (HS.out.ext (HE.out.trans hE2)) hO2.ints Hrl.out Hxl.out (by omega) (by omega)).mono ?_; rintro e w5 ⟨v5, rfl, hO5, hE5⟩)
                  | (at_builtin; refine wp_appendsV rfl _ _ rfl w _ _ _ _ _ _ (HO.out.ext (hE2.trans hE5)) hO5 (HE.out.trans (hE2.trans hE5)) (by omega) rfl rfl ?_; intro v6 w6 hO6 hE6; rw [Hmin.out, ← HKn.out] at hO6; obtain ⟨a6, c6, rfl, -⟩ := hO6.shape))
                go_roundw
                case rel => exact ⟨q + 1, a6, c6, by omega, by omega, by go_num, by rw [show q + 1 - 1 = q by omega], by rw [show q + 1 - 1 = q by omega]; exact hO6, hE6⟩
                case measure => (simp [intOf]; omega)
            · have hclI : ¬ (0 : Int) < (cs.length : Int) := by omega
              have HE := Lib.hid hE
              clear hE
              have hE := Ext.refl wr
              ·
                go_wp2_with fail
                (refine wp_region_lat (wr) (by kernel_rfl) (by kernel_rfl) hE ?_); (repeat (go_big_quiet_step (first | (fail "no call")))); (refine wpQuiet_nil ?_); (intro W hE'); (replace hE := lat_of hE'); (clear hE')
                have hO0 : Own 3 wr (W.alloc (.cells #[] 3)) (.slice (some ⟨W.heap.size, 0, none⟩) 0 0) [] := own_made (TI := 3) (n := 0) (by omega) hE [] rfl
                have hE00 := hE.alloc (.cells #[] 3)
                have hI0 := HXi.out.ext (HE.out.trans hE00)
                have hlen0 : ([] : List Int).length + (castL X).length ≤ 17592186044416 := by rw [castL_len]; simp; omega
                have hlen1 : (castL X).length < 17592186044416 := by rw [castL_len]; omega
                go_wp2_with (first
                  | (at_builtin; refine wp_append1 slI rfl _ _ rfl wr _ _ _ _ hO1 hE1 hlen1 rfl rfl ?_; intro v2 w2 hO2 hE2; rw [← castL_snoc] at hO2)
                  | (at_builtin; refine wp_appends slI rfl _ _ rfl wr _ _ _ _ _ hO0 hI0 hE00 hlen0 rfl rfl ?_; intro v1 w1 hO1 hE1; simp only [List.nil_append] at hO1)
                  | (go_at_call 216; refine (Hih.out _ (most - M) _ _ _ _ (HC.out.ext (HE.out.trans hE2)) (HS.out.ext (HE.out.trans hE2)) hO2.ints Hrl.out Hxl.out (by omega) (by omega)).mono ?_; rintro e w5 ⟨v5, rfl, hO5, hE5⟩)
                  | (at_builtin; refine wp_appendsV rfl _ _ rfl w _ _ _ _ _ _ (HO.out.ext (hE2.trans hE5)) hO5 (HE.out.trans (hE2.trans hE5)) (by omega) rfl rfl ?_; intro v6 w6 hO6 hE6; rw [Hmin.out, ← HKn.out] at hO6; obtain ⟨a6, c6, rfl, -⟩ := hO6.shape))
                go_roundw
                case rel => exact ⟨q + 1, a6, c6, by omega, by omega, by go_num, by rw [show q + 1 - 1 = q by omega], by rw [show q + 1 - 1 = q by omega]; exact hO6, hE6⟩
                case measure => (simp [intOf]; omega)
        · have hlmI : ¬ (M : Int) < (most : Int) := by omega
          have Hn : Hid (min (cntF c n cs (r + 1) X) most = M) := Lib.hid (by
            have := HK.out (n - (q - 1))
            rw [show q - 1 + (n - (q - 1)) = n by omega] at this
            have := HMd.out
            rw [cntF_all]; omega)
          go_wp2_with fail
          go_ret
          exact ⟨_, rfl, by rw [Hn.out]; exact hO, hE⟩
      · have hleI : ¬ (q : Int) ≤ (n : Int) := by omega
        have Hn : Hid (min (cntF c n cs (r + 1) X) most = M) := Lib.hid (by
          have := HKd.out
          rw [show q - 1 = n by omega] at this
          rw [cntF_all, ← this, HMd.out])
        go_wp2_with fail
        go_ret
        exact ⟨_, rfl, by rw [Hn.out]; exact hO, hE⟩
end Go.Zz
