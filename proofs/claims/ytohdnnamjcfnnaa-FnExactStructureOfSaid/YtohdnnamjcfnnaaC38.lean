/- Claims of cosets. -/
import Derived.Test.YtohdnnamjcfnnaaC36
import Derived.Test.YtohdnnamjcfnnaaC24
namespace Go.Zz
open Go.RowKit Go.Proofs
set_option maxHeartbeats 2000000
set_option maxRecDepth 20000

theorem copyGroup_any (v : Value) (l : List Int) (w : World) (h : Ints w v l) :
    Calls Try.prog 107 #[.agg #[v]] w fun e w' => ∃ ao c, e = .returned (.agg #[.slice ao l.length c]) ∧ Own 3 w w' (.slice ao l.length c) l ∧ Ext w w' := by
  obtain ⟨wb, hwb⟩ : ∃ wb, wb = w.alloc (.cells #[v] 28) := ⟨_, rfl⟩
  have hE0 := (Ext.refl w).alloc (.cells #[v] 28)
  have hb := box_cell w v 28
  rw [← hwb] at hE0 hb
  have hg : ∀ W, Ext wb W → Ints W v l := fun W hW => h.ext (hE0.trans hW)
  have hE := Ext.refl wb
  have Hsz : Hid (w.heap.size + 1 = wb.heap.size) := Lib.hid (by rw [hwb]; simp [go_sem])
  have Hwb := Lib.hid hwb
  clear hwb h
  obtain ⟨wc, hwc⟩ : ∃ wc, wc = wb.alloc (.cells #[.slice none 0 0] 28) := ⟨_, rfl⟩
  have hBc : Blk wc wb.heap.size 28 #[.slice none 0 0] := by rw [hwc]; exact Blk.new _ _ _
  have hRc : Res wc wb.heap.size 1 := hBc.res (by simp)
  have hAc : Ext wb wc := by rw [hwc]; exact hE.alloc _
  replace hE := Ext.refl wc
  have Hsz2 : Hid (wb.heap.size + 1 = wc.heap.size) := Lib.hid (by rw [hwc]; simp [go_sem])
  have Hwc := Lib.hid hwc
  clear hwc hBc
  have hgc : ∀ W, Ext wc W → Ints W v l := fun W hW => hg W (hAc.trans hW)
  have hbc : ∀ W, Ext wc W → W.cell? ⟨w.heap.size, 0, none⟩ = some v := fun W hW => hb W (hAc.trans hW)
  go_enter Try.func107, Try.ntmps107
  go_wp2_with fail
  rw [← Hwb.out, ← Hwc.out]; rw [Hsz.out]
  refine (Calls.sh (copyInts_any _ _ _ (hgc _ hE))).mono ?_
  rintro e w1 ⟨ao, c, rfl, hO, hE1⟩
  have hr := hRc.ext hE1
  unfold Res at hr
  have hwc : wb.heap.size < wc.heap.size := by have := Hsz2.out; omega
  go_wp2_with fail
  exact bodyPost_ret (v := .agg #[.slice ao l.length c]) (by simp [results, Try.results107, go_sem, hr]) rfl ⟨_, _, rfl, (hO.setCell_below hwc _).mono (hE0.trans hAc), hE0.trans (Ext.setCell (hAc.trans hE1) (Nat.le_refl _) _)⟩
theorem l33Group_any (v : Value) (l : List Int) (w : World) (h : Ints w v l) :
    Calls Try.prog 103 #[.agg #[v]] w fun e w' => ∃ ao c, e = .returned (.agg #[.slice ao l.length c]) ∧ Own 3 w w' (.slice ao l.length c) l ∧ Ext w w' := by
  obtain ⟨wb, hwb⟩ : ∃ wb, wb = w.alloc (.cells #[v] 28) := ⟨_, rfl⟩
  have hE0 := (Ext.refl w).alloc (.cells #[v] 28)
  have hb := box_cell w v 28
  rw [← hwb] at hE0 hb
  have hg : ∀ W, Ext wb W → Ints W v l := fun W hW => h.ext (hE0.trans hW)
  have hE := Ext.refl wb
  have Hsz : Hid (w.heap.size + 1 = wb.heap.size) := Lib.hid (by rw [hwb]; simp [go_sem])
  have Hwb := Lib.hid hwb
  clear hwb h
  obtain ⟨wc, hwc⟩ : ∃ wc, wc = wb.alloc (.cells #[.slice none 0 0] 28) := ⟨_, rfl⟩
  have hBc : Blk wc wb.heap.size 28 #[.slice none 0 0] := by rw [hwc]; exact Blk.new _ _ _
  have hRc : Res wc wb.heap.size 1 := hBc.res (by simp)
  have hAc : Ext wb wc := by rw [hwc]; exact hE.alloc _
  replace hE := Ext.refl wc
  have Hsz2 : Hid (wb.heap.size + 1 = wc.heap.size) := Lib.hid (by rw [hwc]; simp [go_sem])
  have Hwc := Lib.hid hwc
  clear hwc hBc
  have hgc : ∀ W, Ext wc W → Ints W v l := fun W hW => hg W (hAc.trans hW)
  have hbc : ∀ W, Ext wc W → W.cell? ⟨w.heap.size, 0, none⟩ = some v := fun W hW => hb W (hAc.trans hW)
  have hO : Own 3 wc (wc.alloc (.cells #[] 3)) (.slice (some ⟨wc.heap.size, 0, none⟩) 0 0) [] := own_made (TI := 3) (n := 0) (by omega) (Ext.refl wc) [] rfl
  have hEl := (Ext.refl wc).alloc (.cells #[] 3)
  have hI := hgc _ hEl
  have kb := hbc _ hEl
  have hlen : l.length ≤ 17592186044416 := by obtain ⟨_, _, _, _, h', _⟩ := hgc _ hE; exact h'
  have hwc : wb.heap.size < wc.heap.size := by have := Hsz2.out; omega
  have ez : wc.heap.size = w.heap.size + 1 + 1 := by have := Hsz.out; have := Hsz2.out; omega
  rw [ez] at hO
  have hw : wc = (w.alloc (.cells #[v] 28)).alloc (.cells #[.slice none 0 0] 28) := by rw [Hwc.out, Hwb.out]
  have Hw := Lib.hid hw
  rw [hw] at hO hI hEl kb
  clear hw ez
  go_enter Try.func103, Try.ntmps103
  go_wp2_with (at_builtin; refine wp_appends slI rfl _ _ rfl _ _ _ _ _ _ hO hI hEl (by simpa using hlen) rfl rfl ?_; intro v1 w1 hO1 hE1; rw [← Hw.out] at hO1 hE1; obtain ⟨ao, c, rfl, -⟩ := hO1.shape; have hr := hRc.ext hE1; unfold Res at hr; rw [← Hsz.out] at hr)
  exact bodyPost_ret (v := .agg #[.slice ao ([] ++ l).length c]) (by simp [results, Try.results103, go_sem, hr]) rfl ⟨ao, c, by simp, (by simpa using (Own.setCell_below hO1 (show w.heap.size + 1 < wc.heap.size by rw [Hsz.out]; exact hwc) _).mono (hE0.trans hAc)), hE0.trans (Ext.setCell (hAc.trans hE1) (Nat.le_of_eq Hsz.out.symm) _)⟩
theorem ClaimOfCoset_any (v : Value) (l : List Int) (a : Int) (w : World) (h : Ints w v l) :
    Calls Try.prog 43 #[.agg #[v], .int .i64 a] w fun e w' => ∃ v1 v2 v3 v4, e = .returned (.tuple #[CV (if smallF l a then 7 else 0) v1 v2 (if smallF l a then a else 0) 0 (scS l a) (scD l a) v3 v4 0, .bool (smallF l a)]) ∧ Own4 w w' v1 v2 v3 v4 (if smallF l a then l else []) [] [] [] ∧ Ext w w' := by
  obtain ⟨wb, hwb⟩ : ∃ wb, wb = w.alloc (.cells #[v] 28) := ⟨_, rfl⟩
  have hE0 := (Ext.refl w).alloc (.cells #[v] 28)
  have hb := box_cell w v 28
  rw [← hwb] at hE0 hb
  have hg : ∀ W, Ext wb W → Ints W v l := fun W hW => h.ext (hE0.trans hW)
  have hE := Ext.refl wb
  have Hsz : Hid (w.heap.size + 1 = wb.heap.size) := Lib.hid (by rw [hwb]; simp [go_sem])
  have Hwb := Lib.hid hwb
  clear hwb h
  obtain ⟨wc, hwc⟩ : ∃ wc, wc = wb.alloc (.cells #[.int .i64 0, .slice none 0 0, .slice none 0 0, .int .i64 0, .int .i64 0, .int .i64 0, .int .i64 0, .slice none 0 0, .slice none 0 0, .int .i64 0] 39) := ⟨_, rfl⟩
  have hBc : Blk wc wb.heap.size 39 #[.int .i64 0, .slice none 0 0, .slice none 0 0, .int .i64 0, .int .i64 0, .int .i64 0, .int .i64 0, .slice none 0 0, .slice none 0 0, .int .i64 0] := by rw [hwc]; exact Blk.new _ _ _
  have hRc : Res wc wb.heap.size 10 := hBc.res (by simp)
  have hAc : Ext wb wc := by rw [hwc]; exact hE.alloc _
  replace hE := Ext.refl wc
  have Hsz2 : Hid (wb.heap.size + 1 = wc.heap.size) := Lib.hid (by rw [hwc]; simp [go_sem])
  have Hwc := Lib.hid hwc
  clear hwc hBc
  have hgc : ∀ W, Ext wc W → Ints W v l := fun W hW => hg W (hAc.trans hW)
  have hbc : ∀ W, Ext wc W → W.cell? ⟨w.heap.size, 0, none⟩ = some v := fun W hW => hb W (hAc.trans hW)
  have hwc : wb.heap.size < wc.heap.size := by have := Hsz2.out; omega
  cases hs : smallF l a
  · have Hs := Lib.hid (sc_no hs)
    go_enter Try.func43, Try.ntmps43
    go_wp2_with fail
    rw [← Hwb.out, ← Hwc.out]; rw [Hsz.out]
    refine (SmallCoset_any _ _ _ _ (hgc _ hE)).mono ?_
    rw [Hs.out.1, Hs.out.2, hs]
    rintro e w1 ⟨rfl, hE1⟩
    have hr := hRc.ext hE1
    unfold Res at hr
    go_wp2_with fail
    exact bodyPost_ret (v := .tuple #[CV 0 (.slice none 0 0) (.slice none 0 0) 0 0 0 0 (.slice none 0 0) (.slice none 0 0) 0, .bool false]) (by simp [results, Try.results43, go_sem, hr, CV]) rfl ⟨_, _, _, _, by simp [Hs.out.1, Hs.out.2], ⟨Own.nil _ _ _, Own.nil _ _ _, Own.nil _ _ _, Own.nil _ _ _, Apart.nil_left _, Apart.nil_left _, Apart.nil_left _, Apart.nil_left _, Apart.nil_left _, Apart.nil_left _⟩, hE0.trans (by (repeat (refine Ext.setCell ?_ (Nat.le_refl _) _)); exact hAc.trans hE1)⟩
  · go_enter Try.func43, Try.ntmps43
    go_wp2_with fail
    rw [← Hwb.out, ← Hwc.out]; rw [Hsz.out]
    refine (SmallCoset_any _ _ _ _ (hgc _ hE)).mono ?_
    rw [hs]
    rintro e w1 ⟨rfl, hE1⟩
    have kb := hbc _ hE1
    go_wp2_with fail
    refine (copyGroup_any _ _ _ (hgc _ hE1)).mono ?_
    rintro e w2 ⟨ao, c, rfl, hO, hE2⟩
    have hr := hRc.ext (hE1.trans hE2)
    unfold Res at hr
    have hw1 : wb.heap.size < w1.heap.size := Nat.lt_of_lt_of_le hwc hE1.size
    go_wp2_with fail
    exact bodyPost_ret (v := .tuple #[CV 7 (.slice ao l.length c) (.slice none 0 0) a 0 (scS l a) (scD l a) (.slice none 0 0) (.slice none 0 0) 0, .bool true]) (by simp [results, Try.results43, go_sem, hr, CV]) rfl ⟨_, _, _, _, by simp; rfl, ⟨(show Own 3 w1 _ _ _ by (repeat (refine Own.setCell_below ?_ hw1 _)); exact hO).mono (hE0.trans (hAc.trans hE1)), Own.nil _ _ _, Own.nil _ _ _, Own.nil _ _ _, Apart.nil_right _, Apart.nil_right _, Apart.nil_right _, Apart.nil_left _, Apart.nil_left _, Apart.nil_left _⟩, hE0.trans (by (repeat (refine Ext.setCell ?_ (Nat.le_refl _) _)); exact hAc.trans (hE1.trans hE2))⟩
theorem sClaimOfCoset_any (v : Value) (l : List Int) (a : Int) (w : World) (h : Ints w v l) :
    Calls Try.prog 42 #[.agg #[v], .int .i64 a] w fun e w' => ∃ v1 v2 v3 v4, e = .returned (.tuple #[CV (if smallF l a then 7 else 0) v1 v2 (if smallF l a then a else 0) 0 (scS l a) (scD l a) v3 v4 0, .bool (smallF l a)]) ∧ Own4 w w' v1 v2 v3 v4 (if smallF l a then l else []) [] [] [] ∧ Ext w w' := by
  obtain ⟨wb, hwb⟩ : ∃ wb, wb = w.alloc (.cells #[v] 28) := ⟨_, rfl⟩
  have hE0 := (Ext.refl w).alloc (.cells #[v] 28)
  have hb := box_cell w v 28
  rw [← hwb] at hE0 hb
  have hg : ∀ W, Ext wb W → Ints W v l := fun W hW => h.ext (hE0.trans hW)
  have hE := Ext.refl wb
  have Hsz : Hid (w.heap.size + 1 = wb.heap.size) := Lib.hid (by rw [hwb]; simp [go_sem])
  have Hwb := Lib.hid hwb
  clear hwb h
  obtain ⟨wc, hwc⟩ : ∃ wc, wc = wb.alloc (.cells #[.int .i64 0, .slice none 0 0, .slice none 0 0, .int .i64 0, .int .i64 0, .int .i64 0, .int .i64 0, .slice none 0 0, .slice none 0 0, .int .i64 0] 39) := ⟨_, rfl⟩
  have hBc : Blk wc wb.heap.size 39 #[.int .i64 0, .slice none 0 0, .slice none 0 0, .int .i64 0, .int .i64 0, .int .i64 0, .int .i64 0, .slice none 0 0, .slice none 0 0, .int .i64 0] := by rw [hwc]; exact Blk.new _ _ _
  have hRc : Res wc wb.heap.size 10 := hBc.res (by simp)
  have hAc : Ext wb wc := by rw [hwc]; exact hE.alloc _
  replace hE := Ext.refl wc
  have Hsz2 : Hid (wb.heap.size + 1 = wc.heap.size) := Lib.hid (by rw [hwc]; simp [go_sem])
  have Hwc := Lib.hid hwc
  clear hwc hBc
  have hgc : ∀ W, Ext wc W → Ints W v l := fun W hW => hg W (hAc.trans hW)
  have hbc : ∀ W, Ext wc W → W.cell? ⟨w.heap.size, 0, none⟩ = some v := fun W hW => hb W (hAc.trans hW)
  have hwc : wb.heap.size < wc.heap.size := by have := Hsz2.out; omega
  cases hs : smallF l a
  · have Hs := Lib.hid (sc_no hs)
    go_enter Try.func42, Try.ntmps42
    go_wp2_with fail
    rw [← Hwb.out, ← Hwc.out]; rw [Hsz.out]
    refine (sSmallCoset_any _ _ _ _ (hgc _ hE)).mono ?_
    rw [Hs.out.1, Hs.out.2, hs]
    rintro e w1 ⟨rfl, hE1⟩
    have hr := hRc.ext hE1
    unfold Res at hr
    go_wp2_with fail
    exact bodyPost_ret (v := .tuple #[CV 0 (.slice none 0 0) (.slice none 0 0) 0 0 0 0 (.slice none 0 0) (.slice none 0 0) 0, .bool false]) (by simp [results, Try.results42, go_sem, hr, CV]) rfl ⟨_, _, _, _, by simp [Hs.out.1, Hs.out.2], ⟨Own.nil _ _ _, Own.nil _ _ _, Own.nil _ _ _, Own.nil _ _ _, Apart.nil_left _, Apart.nil_left _, Apart.nil_left _, Apart.nil_left _, Apart.nil_left _, Apart.nil_left _⟩, hE0.trans (by (repeat (refine Ext.setCell ?_ (Nat.le_refl _) _)); exact hAc.trans hE1)⟩
  · go_enter Try.func42, Try.ntmps42
    go_wp2_with fail
    rw [← Hwb.out, ← Hwc.out]; rw [Hsz.out]
    refine (sSmallCoset_any _ _ _ _ (hgc _ hE)).mono ?_
    rw [hs]
    rintro e w1 ⟨rfl, hE1⟩
    have kb := hbc _ hE1
    go_wp2_with fail
    refine (l33Group_any _ _ _ (hgc _ hE1)).mono ?_
    rintro e w2 ⟨ao, c, rfl, hO, hE2⟩
    have hr := hRc.ext (hE1.trans hE2)
    unfold Res at hr
    have hw1 : wb.heap.size < w1.heap.size := Nat.lt_of_lt_of_le hwc hE1.size
    go_wp2_with fail
    exact bodyPost_ret (v := .tuple #[CV 7 (.slice ao l.length c) (.slice none 0 0) a 0 (scS l a) (scD l a) (.slice none 0 0) (.slice none 0 0) 0, .bool true]) (by simp [results, Try.results42, go_sem, hr, CV]) rfl ⟨_, _, _, _, by simp; rfl, ⟨(show Own 3 w1 _ _ _ by (repeat (refine Own.setCell_below ?_ hw1 _)); exact hO).mono (hE0.trans (hAc.trans hE1)), Own.nil _ _ _, Own.nil _ _ _, Own.nil _ _ _, Apart.nil_right _, Apart.nil_right _, Apart.nil_right _, Apart.nil_left _, Apart.nil_left _, Apart.nil_left _⟩, hE0.trans (by (repeat (refine Ext.setCell ?_ (Nat.le_refl _) _)); exact hAc.trans (hE1.trans hE2))⟩
end Go.Zz
