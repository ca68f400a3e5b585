/- Elements that are added to kept counts and removed: AddTo and RemoveFrom of the reference. -/
import Derived.Test.YtgjllfekhfdhaaaC39
namespace Go.Zz
open Go.RowKit Go.Proofs
set_option maxHeartbeats 4000000
set_option maxRecDepth 20000

theorem bit_val {a n : Nat} (ha : a < 2 ^ 24) {b : Bool} (hb : a.testBit n = b) : iand ((shr a n : Nat) : Int) 1 = if b then 1 else 0 := by
  have h1 := shr_le a n
  rw [iand_one (by omega)]
  have : a.testBit n = decide (shr a n % 2 = 1) := by rw [Nat.testBit_eq_decide_div_mod_eq, ← Nat.shiftRight_eq_div_pow]; rfl
  rw [hb] at this
  cases b
  · have h2 := of_decide_eq_false this.symm
    have : shr a n % 2 = 0 := by omega
    rw [this]; rfl
  · have h2 := of_decide_eq_true this.symm
    rw [h2]; rfl
theorem and_pow {a x : Nat} (hb : a.testBit x = true) : a &&& 2 ^ x = 2 ^ x := by
  apply Nat.eq_of_testBit_eq
  intro i
  rw [Nat.testBit_and, Nat.testBit_two_pow]
  by_cases h : x = i
  · subst h; simp [hb]
  · simp [h]
theorem sAddTo_any (c : Value) (l m : List Int) (n x : Int) (w : World) (h : IsK w c l n m) :
    Calls Try.prog 50 #[c, .int .i64 x] w fun e w' => ∃ d, e = .returned (.tuple #[d, .bool (adB l n m x)]) ∧ OwnK2 w w' d (kvL (adB l n m x) l) (kvN (adB l n m x) (adS n x)) (kvM (adB l n m x) l (adS n x)) ∧ Ext w w' := by
  obtain ⟨v, u, rfl, hv, hu⟩ := h
  obtain ⟨wb, hwb⟩ : ∃ wb, wb = w.alloc (.cells #[v, .int .i64 n, u] 65) := ⟨_, rfl⟩
  have hE0 : Ext w wb := by rw [hwb]; exact (Ext.refl _).alloc _
  have B0 : Blk wb w.heap.size 65 #[v, .int .i64 n, u] := by rw [hwb]; exact Blk.new _ _ _
  have b0 : ∀ W, Ext wb W → W.cell? ⟨w.heap.size, 0, none⟩ = some v := fun W hW => (B0.ext hW).cell (i := 0) rfl
  have b1 : ∀ W, Ext wb W → W.cell? ⟨w.heap.size, 1, none⟩ = some (.int .i64 n) := fun W hW => (B0.ext hW).cell (i := 1) rfl
  have b2 : ∀ W, Ext wb W → W.cell? ⟨w.heap.size, 2, none⟩ = some u := fun W hW => (B0.ext hW).cell (i := 2) rfl
  have hg : ∀ W, Ext wb W → Ints W v l := fun W hW => hv.ext (hE0.trans hW)
  have hg2 : ∀ W, Ext wb W → Ints W u m := fun W hW => hu.ext (hE0.trans hW)
  have hE := Ext.refl wb
  have Hsz : Hid (w.heap.size + 1 = wb.heap.size) := Lib.hid (by rw [hwb]; simp [go_sem])
  have Hwb := Lib.hid hwb
  clear hwb hv hu B0
  obtain ⟨wc, hwc⟩ : ∃ wc, wc = wb.alloc (.cells #[.slice none 0 0, .int .i64 0, .slice none 0 0] 65) := ⟨_, rfl⟩
  have hBc : Blk wc wb.heap.size 65 #[.slice none 0 0, .int .i64 0, .slice none 0 0] := by rw [hwc]; exact Blk.new _ _ _
  have hRc : Res wc wb.heap.size 3 := hBc.res (by simp)
  have hAc : Ext wb wc := by rw [hwc]; exact hE.alloc _
  replace hE := Ext.refl wc
  have Hsz2 : Hid (wb.heap.size + 1 = wc.heap.size) := Lib.hid (by rw [hwc]; simp [go_sem])
  have Hwc := Lib.hid hwc
  clear hwc hBc
  have hwc : wb.heap.size < wc.heap.size := by have := Hsz2.out; omega
  have c0 : ∀ W, Ext wc W → W.cell? ⟨w.heap.size, 0, none⟩ = some v := fun W hW => b0 W (hAc.trans hW)
  have c1 : ∀ W, Ext wc W → W.cell? ⟨w.heap.size, 1, none⟩ = some (.int .i64 n) := fun W hW => b1 W (hAc.trans hW)
  have c2 : ∀ W, Ext wc W → W.cell? ⟨w.heap.size, 2, none⟩ = some u := fun W hW => b2 W (hAc.trans hW)
  have hgc : ∀ W, Ext wc W → Ints W v l := fun W hW => hg W (hAc.trans hW)
  have hg2c : ∀ W, Ext wc W → Ints W u m := fun W hW => hg2 W (hAc.trans hW)
  have hrr : ∀ W, Ext wc W → ∀ i, i < 3 → W.cell? ⟨wb.heap.size, i, none⟩ = some (At W ⟨wb.heap.size, i, none⟩) ∧ W.frozen? ⟨wb.heap.size, i, none⟩ = false := fun W hW => hRc.ext hW
  cases hk : keptB l n m
  · have Hv : Hid (adB l n m x = false) := Lib.hid (by unfold adB; rw [hk]; rfl)
    go_enter Try.func50, Try.ntmps50
    go_wp2_with fail
    rw [← Hwb.out, ← Hwc.out]; rw [Hsz.out]
    go_wp2_with (first | (go_at_call 123; refine (sIsKept_val _ _ _ _ _ (⟨_, _, rfl, hgc _ hE, hg2c _ hE⟩) (hk)).mono ?_; rintro e w' ⟨rfl, hE'⟩; replace hE := hE.trans hE'; clear hE'))
    exact bodyPost_ret (v := .tuple #[.agg #[.slice none 0 0, .int .i64 0, .slice none 0 0], .bool false]) (by simp [results, Try.results50, go_sem, hrr _ hE]) rfl ⟨_, by rw [Hv.out], by rw [(kv_no Hv.out l 0).1, (kv_no Hv.out l _).2.1, (kv_no Hv.out l _).2.2]; exact OwnK2.none _ _, hE0.trans (Ext.setCell (Ext.setCell (Ext.setCell (hAc.trans hE) (Nat.le_refl _) _) (Nat.le_refl _) _) (Nat.le_refl _) _)⟩
  · cases hx : hasB l x
    · have Hv : Hid (adB l n m x = false) := Lib.hid (by unfold adB; rw [hx]; simp)
      go_enter Try.func50, Try.ntmps50
      go_wp2_with fail
      rw [← Hwb.out, ← Hwc.out]; rw [Hsz.out]
      go_wp2_with (first | (go_at_call 123; refine (sIsKept_val _ _ _ _ _ (⟨_, _, rfl, hgc _ hE, hg2c _ hE⟩) (hk)).mono ?_; rintro e w' ⟨rfl, hE'⟩; replace hE := hE.trans hE'; clear hE') | (go_at_call 124; refine (l2Is_val _ _ _ _ (hgc _ hE) hx).mono ?_; rintro e w' ⟨rfl, hE'⟩; replace hE := hE.trans hE'; clear hE'))
      exact bodyPost_ret (v := .tuple #[.agg #[.slice none 0 0, .int .i64 0, .slice none 0 0], .bool false]) (by simp [results, Try.results50, go_sem, hrr _ hE]) rfl ⟨_, by rw [Hv.out], by rw [(kv_no Hv.out l 0).1, (kv_no Hv.out l _).2.1, (kv_no Hv.out l _).2.2]; exact OwnK2.none _ _, hE0.trans (Ext.setCell (Ext.setCell (Ext.setCell (hAc.trans hE) (Nat.le_refl _) _) (Nat.le_refl _) _) (Nat.le_refl _) _)⟩
    · have HB : Hid (adB l n m x = (if n.toNat.testBit x.toNat then false else true)) := Lib.hid (by unfold adB; rw [hk, hx]; cases n.toNat.testBit x.toNat <;> rfl)
      obtain ⟨a, rfl, ha1, ha2, hgr, hmt, hsa⟩ := keptB_nat hk
      obtain ⟨x, rfl, hx2, -⟩ := hasB_nat hx
      have hob := ord_bd hgr
      have HS : Hid (adS (a : Int) (x : Int) = HOr.hOr a (2 ^ x)) := Lib.hid rfl
      have Hgr := Lib.hid hgr
      have Hmt := Lib.hid hmt
      have hsh := ishr_nat (a := a) (n := x) (by omega)
      clear hgr hmt
      cases hb : a.testBit x
      all_goals
        have hbv := bit_val ha2 hb
        simp only [if_true, if_false, Bool.false_eq_true] at hbv
      rotate_left
      · have Hv : Hid (adB l a m x = false) := Lib.hid (by rw [HB.out]; simp [hb])
        go_enter Try.func50, Try.ntmps50
        go_wp2_with fail
        rw [← Hwb.out, ← Hwc.out]; rw [Hsz.out]
        go_wp2_with (first | (go_at_call 123; refine (sIsKept_val _ _ _ _ _ (⟨_, _, rfl, hgc _ hE, hg2c _ hE⟩) (hk)).mono ?_; rintro e w' ⟨rfl, hE'⟩; replace hE := hE.trans hE'; clear hE') | (go_at_call 124; refine (l2Is_val _ _ _ _ (hgc _ hE) hx).mono ?_; rintro e w' ⟨rfl, hE'⟩; replace hE := hE.trans hE'; clear hE'))
        exact bodyPost_ret (v := .tuple #[.agg #[.slice none 0 0, .int .i64 0, .slice none 0 0], .bool false]) (by simp [results, Try.results50, go_sem, hrr _ hE]) rfl ⟨_, by rw [Hv.out], by rw [(kv_no Hv.out l 0).1, (kv_no Hv.out l _).2.1, (kv_no Hv.out l _).2.2]; exact OwnK2.none _ _, hE0.trans (Ext.setCell (Ext.setCell (Ext.setCell (hAc.trans hE) (Nat.le_refl _) _) (Nat.le_refl _) _) (Nat.le_refl _) _)⟩
      · have Hv : Hid (adB l a m x = true) := Lib.hid (by rw [HB.out]; simp [hb])
        have hs1 := ishl_one (n := x) (by omega)
        have hpx := pw_le (show x ≤ 24 by omega)
        obtain ⟨s, hsd⟩ : ∃ s, s = HOr.hOr a (2 ^ x) := ⟨_, rfl⟩; have hsb : s < 2 ^ ord l := (by rw [hsd]; exact or_lt ha1 hx2); have hs2 : ior (a : Int) ((pw x : Nat) : Int) = (s : Int) := (by rw [hsd]; exact ior_pw ha2 (by omega)); have Htab : Hid (chgF l x 1 m (elems (andN a (2 ^ x))) = tabN l s s) := Lib.hid (by rw [Hmt.out, hsd, andN_none hb]; exact tab_put Hgr.out (by omega) hb); rw [← hsd] at HS; clear hsd
        rw [Hv.out, HS.out]
        have hsl : s < 2 ^ 24 := Nat.lt_of_lt_of_le hsb (pow_ord Hgr.out)
        rw [(kv_yes rfl l s).1, (kv_yes rfl l s).2.1, (kv_yes rfl l s).2.2]
        have hml : Hid (m.length = ord l) := Lib.hid (by rw [Hmt.out, tabN_len])
        have hbd : Hid (∀ i, 0 ≤ nth m i ∧ nth m i ≤ 576) := Lib.hid (fun i => by rw [Hmt.out]; exact tabN_bd Hgr.out a a i)
        go_enter Try.func50, Try.ntmps50
        go_wp2_with fail
        rw [← Hwb.out, ← Hwc.out]; rw [Hsz.out]
        go_wp2_with (first | (go_at_call 123; refine (sIsKept_val _ _ _ _ _ (⟨_, _, rfl, hgc _ hE, hg2c _ hE⟩) (hk)).mono ?_; rintro e w' ⟨rfl, hE'⟩; replace hE := hE.trans hE'; clear hE') | (go_at_call 124; refine (l2Is_val _ _ _ _ (hgc _ hE) hx).mono ?_; rintro e w' ⟨rfl, hE'⟩; replace hE := hE.trans hE'; clear hE'))
        refine (l30Change_any _ l m a x 1 _ ⟨v, u, rfl, hgc _ hE, hg2c _ hE⟩ Hgr ha1 hx2 hml.out (by decide) hbd.out).mono ?_
        rintro e w1 ⟨ao, co, ap, cp, rfl, hK, hE1⟩
        rw [Htab.out] at hK
        obtain ⟨v1, u1, e1, hO1, hO2, hd⟩ := hK
        simp only [Value.agg.injEq, Array.mk.injEq, List.cons.injEq, and_true, true_and] at e1
        obtain ⟨rfl, rfl⟩ := e1
        have hEb := hE
        have hwE : wb.heap.size < _ := Nat.lt_of_lt_of_le hwc hE.size
        have n1 := hO1.ne_of (b := w1.heap.size) (Or.inr (Nat.le_refl _))
        have n2 := hO2.ne_of (b := w1.heap.size) (Or.inr (Nat.le_refl _))
        have Hn12 := Lib.hid (And.intro n1 n2)
        have hwl : wb.heap.size < w1.heap.size := Nat.lt_of_lt_of_le hwE hE1.size
        obtain ⟨wD, hwD⟩ : ∃ wD, wD = w1.alloc (.cells #[.slice ao l.length co, .int .i64 a, .slice ap m.length cp] 65) := ⟨_, rfl⟩
        have hDx : Ext w1 wD := by rw [hwD]; exact (Ext.refl _).alloc _
        have BD : Blk wD w1.heap.size 65 #[.slice ao l.length co, .int .i64 a, .slice ap m.length cp] := by rw [hwD]; exact Blk.new _ _ _
        replace hO1 := hO1.ext hDx
        replace hO2 := hO2.ext hDx
        replace hE := hE.trans (hE1.trans hDx)
        have k1 := c1 _ hE
        rw [hwD] at k1
        have HwD := Lib.hid hwD
        have Hd := Lib.hid hd
        clear hwD hk hx hb n1 n2 hd hbv
        go_wp2_with fail
        rw [← HwD.out]
        clear k1
        have k1 := c1 _ hE
        have z0 := BD.cell (i := 0) rfl
        have z1 := BD.cell (i := 1) rfl
        have z2 := BD.cell (i := 2) rfl
        have f1 := BD.free 1
        go_still_tail 6, (by kernel_rfl)
        change wpList _ _ _ _ _ (World.drew _)
        obtain ⟨wd, hwd⟩ : ∃ wd, wd = World.drew wD := ⟨_, rfl⟩
        have hnd : Ext wD wd := by rw [hwd]; exact (Ext.refl _).drew
        rw [← hwd]
        clear hwd z0 z1 z2 f1 k1
        replace hO1 := hO1.ext hnd
        replace hO2 := hO2.ext hnd
        replace BD := BD.ext hnd
        replace hE := hE.trans hnd
        have z0 := BD.cell (i := 0) (v := .slice ao l.length co) rfl
        have z1 := BD.cell (i := 1) (v := .int .i64 a) rfl
        have z2 := BD.cell (i := 2) (v := .slice ap m.length cp) rfl
        have f1 := BD.free 1
        have hne : ¬ wb.heap.size = w1.heap.size := by omega
        have hne' : ¬ w1.heap.size = wb.heap.size := by omega
        have hr := hrr _ hE
        go_wp2_with fail
        exact bodyPost_ret (v := .tuple #[.agg #[.slice ao l.length co, .int .i64 s, .slice ap m.length cp], .bool true]) (by simp [results, Try.results50, go_sem, hr]) rfl ⟨_, rfl, ⟨_, _, rfl,
          (show Own 3 _ _ _ _ by (repeat (first | refine Own.setCell_below ?_ hwE _ | refine Own.setCell_ne ?_ Hn12.out.1 _)); exact hO1).mono (hE0.trans (hAc.trans hEb)),
          (show Own 3 _ _ _ _ by (repeat (first | refine Own.setCell_below ?_ hwE _ | refine Own.setCell_ne ?_ Hn12.out.2 _)); exact hO2).mono (hE0.trans (hAc.trans hEb)), Hd.out⟩,
          hE0.trans (by (repeat (refine Ext.setCell ?_ (by first | exact Nat.le_refl _ | (simp only []; omega)) _)); exact hAc.trans hE)⟩
end Go.Zz
