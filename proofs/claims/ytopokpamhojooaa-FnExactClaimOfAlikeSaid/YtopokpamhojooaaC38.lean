/- Claims of cosets. -/
import Derived.Test.YtopokpamhojooaaC36
import Derived.Test.YtopokpamhojooaaC24
namespace Go.Zz
open Go.RowKit Go.Proofs
set_option maxHeartbeats 2000000
set_option maxRecDepth 20000

theorem copyGroup_any (v : Value) (l : List Int) (w : World) (h : Ints w v l) :
    Calls Try.prog 45 #[.agg #[v]] w fun e w' => ∃ ao c, e = .returned (.agg #[.slice ao l.length c]) ∧ Own 3 w w' (.slice ao l.length c) l ∧ Ext w w' := by
  obtain ⟨wb, hwb⟩ : ∃ wb, wb = w.alloc (.cells #[v] 30) := ⟨_, rfl⟩
  have hE0 := (Ext.refl w).alloc (.cells #[v] 30)
  have hb := box_cell w v 30
  rw [← hwb] at hE0 hb
  have hg : ∀ W, Ext wb W → Ints W v l := fun W hW => h.ext (hE0.trans hW)
  have hE := Ext.refl wb
  have Hsz : Hid (w.heap.size + 1 = wb.heap.size) := Lib.hid (by rw [hwb]; simp [go_sem])
  have Hwb := Lib.hid hwb
  clear hwb h
  obtain ⟨wc, hwc⟩ : ∃ wc, wc = wb.alloc (.cells #[.slice none 0 0] 30) := ⟨_, rfl⟩
  have hBc : Blk wc wb.heap.size 30 #[.slice none 0 0] := by rw [hwc]; exact Blk.new _ _ _
  have hRc : Res wc wb.heap.size 1 := hBc.res (by simp)
  have hAc : Ext wb wc := by rw [hwc]; exact hE.alloc _
  replace hE := Ext.refl wc
  have Hsz2 : Hid (wb.heap.size + 1 = wc.heap.size) := Lib.hid (by rw [hwc]; simp [go_sem])
  have Hwc := Lib.hid hwc
  clear hwc hBc
  have hgc : ∀ W, Ext wc W → Ints W v l := fun W hW => hg W (hAc.trans hW)
  have hbc : ∀ W, Ext wc W → W.cell? ⟨w.heap.size, 0, none⟩ = some v := fun W hW => hb W (hAc.trans hW)
  go_enter Try.func45, Try.ntmps45
  go_wp2_with fail
  rw [← Hwb.out, ← Hwc.out]; rw [Hsz.out]
  refine (Calls.sh (copyInts_any _ _ _ (hgc _ hE))).mono ?_
  rintro e w1 ⟨ao, c, rfl, hO, hE1⟩
  have hr := hRc.ext hE1
  unfold Res at hr
  have hwc : wb.heap.size < wc.heap.size := by have := Hsz2.out; omega
  go_wp2_with fail
  exact bodyPost_ret (v := .agg #[.slice ao l.length c]) (by simp [results, Try.results45, go_sem, hr]) rfl ⟨_, _, rfl, (hO.setCell_below hwc _).mono (hE0.trans hAc), hE0.trans (Ext.setCell (hAc.trans hE1) (Nat.le_refl _) _)⟩
theorem l33Group_any (v : Value) (l : List Int) (w : World) (h : Ints w v l) :
    Calls Try.prog 42 #[.agg #[v]] w fun e w' => ∃ ao c, e = .returned (.agg #[.slice ao l.length c]) ∧ Own 3 w w' (.slice ao l.length c) l ∧ Ext w w' := by
  obtain ⟨wb, hwb⟩ : ∃ wb, wb = w.alloc (.cells #[v] 30) := ⟨_, rfl⟩
  have hE0 := (Ext.refl w).alloc (.cells #[v] 30)
  have hb := box_cell w v 30
  rw [← hwb] at hE0 hb
  have hg : ∀ W, Ext wb W → Ints W v l := fun W hW => h.ext (hE0.trans hW)
  have hE := Ext.refl wb
  have Hsz : Hid (w.heap.size + 1 = wb.heap.size) := Lib.hid (by rw [hwb]; simp [go_sem])
  have Hwb := Lib.hid hwb
  clear hwb h
  obtain ⟨wc, hwc⟩ : ∃ wc, wc = wb.alloc (.cells #[.slice none 0 0] 30) := ⟨_, rfl⟩
  have hBc : Blk wc wb.heap.size 30 #[.slice none 0 0] := by rw [hwc]; exact Blk.new _ _ _
  have hRc : Res wc wb.heap.size 1 := hBc.res (by simp)
  have hAc : Ext wb wc := by rw [hwc]; exact hE.alloc _
  replace hE := Ext.refl wc
  have Hsz2 : Hid (wb.heap.size + 1 = wc.heap.size) := Lib.hid (by rw [hwc]; simp [go_sem])
  have Hwc := Lib.hid hwc
  clear hwc hBc
  have hgc : ∀ W, Ext wc W → Ints W v l := fun W hW => hg W (hAc.trans hW)
  have hbc : ∀ W, Ext wc W → W.cell? ⟨w.heap.size, 0, none⟩ = some v := fun W hW => hb W (hAc.trans hW)
  have hO : Own 3 wc (wc.alloc (.cells #[] 3)) (.slice (some ⟨wc.heap.size, 0, none⟩) 0 0) [] := own_made (TI := 3) (n := 0) (by omega) (Ext.refl wc) [] rfl
  have hEl := (Ext.refl wc).alloc (.cells #[] 3)
  have hI := hgc _ hEl
  have kb := hbc _ hEl
  have hlen : l.length ≤ 17592186044416 := by obtain ⟨_, _, _, _, h', _⟩ := hgc _ hE; exact h'
  have hwc : wb.heap.size < wc.heap.size := by have := Hsz2.out; omega
  have ez : wc.heap.size = w.heap.size + 1 + 1 := by have := Hsz.out; have := Hsz2.out; omega
  rw [ez] at hO
  have hw : wc = (w.alloc (.cells #[v] 30)).alloc (.cells #[.slice none 0 0] 30) := by rw [Hwc.out, Hwb.out]
  have Hw := Lib.hid hw
  rw [hw] at hO hI hEl kb
  clear hw ez
  go_enter Try.func42, Try.ntmps42
  go_wp2_with (at_builtin; refine wp_appends slI rfl _ _ rfl _ _ _ _ _ _ hO hI hEl (by simpa using hlen) rfl rfl ?_; intro v1 w1 hO1 hE1; rw [← Hw.out] at hO1 hE1; obtain ⟨ao, c, rfl, -⟩ := hO1.shape; have hr := hRc.ext hE1; unfold Res at hr; rw [← Hsz.out] at hr)
  exact bodyPost_ret (v := .agg #[.slice ao ([] ++ l).length c]) (by simp [results, Try.results42, go_sem, hr]) rfl ⟨ao, c, by simp, (by simpa using (Own.setCell_below hO1 (show w.heap.size + 1 < wc.heap.size by rw [Hsz.out]; exact hwc) _).mono (hE0.trans hAc)), hE0.trans (Ext.setCell (hAc.trans hE1) (Nat.le_of_eq Hsz.out.symm) _)⟩
end Go.Zz
