/- Claims of cosets. -/
import Derived.Test.YtdlbbpeahicakaaGreatGr6
import Derived.Test.YtdlbbpeahicakaaGreatGr5
import Derived.Test.YtdlbbpeahicakaaGreatGr4
import Derived.Test.YtdlbbpeahicakaaGreatGr3
namespace Go.Zz
open Go.RowKit Go.Proofs
set_option maxHeartbeats 2000000
set_option maxRecDepth 20000

theorem copyGroup_any (v : Value) (l : List Int) (w : World) (h : Ints w v l) :
    Calls Tryz.prog 80 #[.agg #[v]] w fun e w' => ∃ ao c, e = .returned (.agg #[.slice ao l.length c]) ∧ Own 3 w w' (.slice ao l.length c) l ∧ Ext w w' := by
  obtain ⟨wb, hwb⟩ : ∃ wb, wb = w.alloc (.cells #[v] 27) := ⟨_, rfl⟩
  have hE0 := (Ext.refl w).alloc (.cells #[v] 27)
  have hb := box_cell w v 27
  rw [← hwb] at hE0 hb
  have hg : ∀ W, Ext wb W → Ints W v l := fun W hW => h.ext (hE0.trans hW)
  have hE := Ext.refl wb
  have Hsz : Hid (w.heap.size + 1 = wb.heap.size) := Lib.hid (by rw [hwb]; simp [go_sem])
  have Hwb := Lib.hid hwb
  clear hwb h
  obtain ⟨wc, hwc⟩ : ∃ wc, wc = wb.alloc (.cells #[.slice none 0 0] 27) := ⟨_, rfl⟩
  have hBc : Blk wc wb.heap.size 27 #[.slice none 0 0] := by rw [hwc]; exact Blk.new _ _ _
  have hRc : Res wc wb.heap.size 1 := hBc.res (by simp)
  have hAc : Ext wb wc := by rw [hwc]; exact hE.alloc _
  replace hE := Ext.refl wc
  have Hsz2 : Hid (wb.heap.size + 1 = wc.heap.size) := Lib.hid (by rw [hwc]; simp [go_sem])
  have Hwc := Lib.hid hwc
  clear hwc hBc
  have hgc : ∀ W, Ext wc W → Ints W v l := fun W hW => hg W (hAc.trans hW)
  have hbc : ∀ W, Ext wc W → W.cell? ⟨w.heap.size, 0, none⟩ = some v := fun W hW => hb W (hAc.trans hW)
  go_enter Tryz.func80, Tryz.ntmps80
  go_wp2_with fail
  rw [← Hwb.out, ← Hwc.out]; rw [Hsz.out]
  refine (Calls.sh (copyInts_any _ _ _ (hgc _ hE))).mono ?_
  rintro e w1 ⟨ao, c, rfl, hO, hE1⟩
  have hr := hRc.ext hE1
  unfold Res at hr
  have hwc : wb.heap.size < wc.heap.size := by have := Hsz2.out; omega
  go_wp2_with fail
  exact bodyPost_ret (v := .agg #[.slice ao l.length c]) (by simp [results, Tryz.results80, go_sem, hr]) rfl ⟨_, _, rfl, (hO.setCell_below hwc _).mono (hE0.trans hAc), hE0.trans (Ext.setCell (hAc.trans hE1) (Nat.le_refl _) _)⟩
theorem l33Group_any (v : Value) (l : List Int) (w : World) (h : Ints w v l) :
    Calls Tryz.prog 83 #[.agg #[v]] w fun e w' => ∃ ao c, e = .returned (.agg #[.slice ao l.length c]) ∧ Own 3 w w' (.slice ao l.length c) l ∧ Ext w w' := by
  obtain ⟨wb, hwb⟩ : ∃ wb, wb = w.alloc (.cells #[v] 27) := ⟨_, rfl⟩
  have hE0 := (Ext.refl w).alloc (.cells #[v] 27)
  have hb := box_cell w v 27
  rw [← hwb] at hE0 hb
  have hg : ∀ W, Ext wb W → Ints W v l := fun W hW => h.ext (hE0.trans hW)
  have hE := Ext.refl wb
  have Hsz : Hid (w.heap.size + 1 = wb.heap.size) := Lib.hid (by rw [hwb]; simp [go_sem])
  have Hwb := Lib.hid hwb
  clear hwb h
  obtain ⟨wc, hwc⟩ : ∃ wc, wc = wb.alloc (.cells #[.slice none 0 0] 27) := ⟨_, rfl⟩
  have hBc : Blk wc wb.heap.size 27 #[.slice none 0 0] := by rw [hwc]; exact Blk.new _ _ _
  have hRc : Res wc wb.heap.size 1 := hBc.res (by simp)
  have hAc : Ext wb wc := by rw [hwc]; exact hE.alloc _
  replace hE := Ext.refl wc
  have Hsz2 : Hid (wb.heap.size + 1 = wc.heap.size) := Lib.hid (by rw [hwc]; simp [go_sem])
  have Hwc := Lib.hid hwc
  clear hwc hBc
  have hgc : ∀ W, Ext wc W → Ints W v l := fun W hW => hg W (hAc.trans hW)
  have hbc : ∀ W, Ext wc W → W.cell? ⟨w.heap.size, 0, none⟩ = some v := fun W hW => hb W (hAc.trans hW)
  have hO : Own 3 wc (wc.alloc (.cells #[] 3)) (.slice (some ⟨wc.heap.size, 0, none⟩) 0 0) [] := own_made (TI := 3) (n := 0) (by omega) (Ext.refl wc) [] rfl
  have hEl := (Ext.refl wc).alloc (.cells #[] 3)
  have hI := hgc _ hEl
  have kb := hbc _ hEl
  have hlen : l.length ≤ 17592186044416 := by obtain ⟨_, _, _, _, h', _⟩ := hgc _ hE; exact h'
  have hwc : wb.heap.size < wc.heap.size := by have := Hsz2.out; omega
  have ez : wc.heap.size = w.heap.size + 1 + 1 := by have := Hsz.out; have := Hsz2.out; omega
  rw [ez] at hO
  have hw : wc = (w.alloc (.cells #[v] 27)).alloc (.cells #[.slice none 0 0] 27) := by rw [Hwc.out, Hwb.out]
  have Hw := Lib.hid hw
  rw [hw] at hO hI hEl kb
  clear hw ez
  go_enter Tryz.func83, Tryz.ntmps83
  go_wp2_with (at_builtin; refine wp_appends slI rfl _ _ rfl _ _ _ _ _ _ hO hI hEl (by simpa using hlen) rfl rfl ?_; intro v1 w1 hO1 hE1; rw [← Hw.out] at hO1 hE1; obtain ⟨ao, c, rfl, -⟩ := hO1.shape; have hr := hRc.ext hE1; unfold Res at hr; rw [← Hsz.out] at hr)
  exact bodyPost_ret (v := .agg #[.slice ao ([] ++ l).length c]) (by simp [results, Tryz.results83, go_sem, hr]) rfl ⟨ao, c, by simp, (by simpa using (Own.setCell_below hO1 (show w.heap.size + 1 < wc.heap.size by rw [Hsz.out]; exact hwc) _).mono (hE0.trans hAc)), hE0.trans (Ext.setCell (hAc.trans hE1) (Nat.le_of_eq Hsz.out.symm) _)⟩
theorem ClaimOfCoset_any (v : Value) (l : List Int) (a : Int) (w : World) (h : Ints w v l) :
    Calls Tryz.prog 32 #[.agg #[v], .int .i64 a] w fun e w' => ∃ v1 v2 v3 v4, e = .returned (.tuple #[CV (if smallF l a then 7 else 0) v1 v2 (if smallF l a then a else 0) 0 (scS l a) (scD l a) v3 v4 0, .bool (smallF l a)]) ∧ Own4 w w' v1 v2 v3 v4 (if smallF l a then l else []) [] [] [] ∧ Ext w w' := by
  obtain ⟨wb, hwb⟩ : ∃ wb, wb = w.alloc (.cells #[v] 27) := ⟨_, rfl⟩
  have hE0 := (Ext.refl w).alloc (.cells #[v] 27)
  have hb := box_cell w v 27
  rw [← hwb] at hE0 hb
  have hg : ∀ W, Ext wb W → Ints W v l := fun W hW => h.ext (hE0.trans hW)
  have hE := Ext.refl wb
  have Hsz : Hid (w.heap.size + 1 = wb.heap.size) := Lib.hid (by rw [hwb]; simp [go_sem])
  have Hwb := Lib.hid hwb
  clear hwb h
  obtain ⟨wc, hwc⟩ : ∃ wc, wc = wb.alloc (.cells #[.int .i64 0, .slice none 0 0, .slice none 0 0, .int .i64 0, .int .i64 0, .int .i64 0, .int .i64 0, .slice none 0 0, .slice none 0 0, .int .i64 0] 38) := ⟨_, rfl⟩
  have hBc : Blk wc wb.heap.size 38 #[.int .i64 0, .slice none 0 0, .slice none 0 0, .int .i64 0, .int .i64 0, .int .i64 0, .int .i64 0, .slice none 0 0, .slice none 0 0, .int .i64 0] := by rw [hwc]; exact Blk.new _ _ _
  have hRc : Res wc wb.heap.size 10 := hBc.res (by simp)
  have hAc : Ext wb wc := by rw [hwc]; exact hE.alloc _
  replace hE := Ext.refl wc
  have Hsz2 : Hid (wb.heap.size + 1 = wc.heap.size) := Lib.hid (by rw [hwc]; simp [go_sem])
  have Hwc := Lib.hid hwc
  clear hwc hBc
  have hgc : ∀ W, Ext wc W → Ints W v l := fun W hW => hg W (hAc.trans hW)
  have hbc : ∀ W, Ext wc W → W.cell? ⟨w.heap.size, 0, none⟩ = some v := fun W hW => hb W (hAc.trans hW)
  have hwc : wb.heap.size < wc.heap.size := by have := Hsz2.out; omega
  cases hs : smallF l a
  · have Hs := Lib.hid (sc_no hs)
    go_enter Tryz.func32, Tryz.ntmps32
    go_wp2_with fail
    rw [← Hwb.out, ← Hwc.out]; rw [Hsz.out]
    refine (SmallCoset_any _ _ _ _ (hgc _ hE)).mono ?_
    rw [Hs.out.1, Hs.out.2, hs]
    rintro e w1 ⟨rfl, hE1⟩
    have hr := hRc.ext hE1
    unfold Res at hr
    go_wp2_with fail
    exact bodyPost_ret (v := .tuple #[CV 0 (.slice none 0 0) (.slice none 0 0) 0 0 0 0 (.slice none 0 0) (.slice none 0 0) 0, .bool false]) (by simp [results, Tryz.results32, go_sem, hr, CV]) rfl ⟨_, _, _, _, by simp [Hs.out.1, Hs.out.2], ⟨Own.nil _ _ _, Own.nil _ _ _, Own.nil _ _ _, Own.nil _ _ _, Apart.nil_left _, Apart.nil_left _, Apart.nil_left _, Apart.nil_left _, Apart.nil_left _, Apart.nil_left _⟩, hE0.trans (by (repeat (refine Ext.setCell ?_ (Nat.le_refl _) _)); exact hAc.trans hE1)⟩
  · go_enter Tryz.func32, Tryz.ntmps32
    go_wp2_with fail
    rw [← Hwb.out, ← Hwc.out]; rw [Hsz.out]
    refine (SmallCoset_any _ _ _ _ (hgc _ hE)).mono ?_
    rw [hs]
    rintro e w1 ⟨rfl, hE1⟩
    have kb := hbc _ hE1
    go_wp2_with fail
    refine (copyGroup_any _ _ _ (hgc _ hE1)).mono ?_
    rintro e w2 ⟨ao, c, rfl, hO, hE2⟩
    have hr := hRc.ext (hE1.trans hE2)
    unfold Res at hr
    have hw1 : wb.heap.size < w1.heap.size := Nat.lt_of_lt_of_le hwc hE1.size
    go_wp2_with fail
    exact bodyPost_ret (v := .tuple #[CV 7 (.slice ao l.length c) (.slice none 0 0) a 0 (scS l a) (scD l a) (.slice none 0 0) (.slice none 0 0) 0, .bool true]) (by simp [results, Tryz.results32, go_sem, hr, CV]) rfl ⟨_, _, _, _, by simp; rfl, ⟨(show Own 3 w1 _ _ _ by (repeat (refine Own.setCell_below ?_ hw1 _)); exact hO).mono (hE0.trans (hAc.trans hE1)), Own.nil _ _ _, Own.nil _ _ _, Own.nil _ _ _, Apart.nil_right _, Apart.nil_right _, Apart.nil_right _, Apart.nil_left _, Apart.nil_left _, Apart.nil_left _⟩, hE0.trans (by (repeat (refine Ext.setCell ?_ (Nat.le_refl _) _)); exact hAc.trans (hE1.trans hE2))⟩
theorem sClaimOfCoset_any (v : Value) (l : List Int) (a : Int) (w : World) (h : Ints w v l) :
    Calls Tryz.prog 33 #[.agg #[v], .int .i64 a] w fun e w' => ∃ v1 v2 v3 v4, e = .returned (.tuple #[CV (if smallF l a then 7 else 0) v1 v2 (if smallF l a then a else 0) 0 (scS l a) (scD l a) v3 v4 0, .bool (smallF l a)]) ∧ Own4 w w' v1 v2 v3 v4 (if smallF l a then l else []) [] [] [] ∧ Ext w w' := by
  obtain ⟨wb, hwb⟩ : ∃ wb, wb = w.alloc (.cells #[v] 27) := ⟨_, rfl⟩
  have hE0 := (Ext.refl w).alloc (.cells #[v] 27)
  have hb := box_cell w v 27
  rw [← hwb] at hE0 hb
  have hg : ∀ W, Ext wb W → Ints W v l := fun W hW => h.ext (hE0.trans hW)
  have hE := Ext.refl wb
  have Hsz : Hid (w.heap.size + 1 = wb.heap.size) := Lib.hid (by rw [hwb]; simp [go_sem])
  have Hwb := Lib.hid hwb
  clear hwb h
  obtain ⟨wc, hwc⟩ : ∃ wc, wc = wb.alloc (.cells #[.int .i64 0, .slice none 0 0, .slice none 0 0, .int .i64 0, .int .i64 0, .int .i64 0, .int .i64 0, .slice none 0 0, .slice none 0 0, .int .i64 0] 38) := ⟨_, rfl⟩
  have hBc : Blk wc wb.heap.size 38 #[.int .i64 0, .slice none 0 0, .slice none 0 0, .int .i64 0, .int .i64 0, .int .i64 0, .int .i64 0, .slice none 0 0, .slice none 0 0, .int .i64 0] := by rw [hwc]; exact Blk.new _ _ _
  have hRc : Res wc wb.heap.size 10 := hBc.res (by simp)
  have hAc : Ext wb wc := by rw [hwc]; exact hE.alloc _
  replace hE := Ext.refl wc
  have Hsz2 : Hid (wb.heap.size + 1 = wc.heap.size) := Lib.hid (by rw [hwc]; simp [go_sem])
  have Hwc := Lib.hid hwc
  clear hwc hBc
  have hgc : ∀ W, Ext wc W → Ints W v l := fun W hW => hg W (hAc.trans hW)
  have hbc : ∀ W, Ext wc W → W.cell? ⟨w.heap.size, 0, none⟩ = some v := fun W hW => hb W (hAc.trans hW)
  have hwc : wb.heap.size < wc.heap.size := by have := Hsz2.out; omega
  cases hs : smallF l a
  · have Hs := Lib.hid (sc_no hs)
    go_enter Tryz.func33, Tryz.ntmps33
    go_wp2_with fail
    rw [← Hwb.out, ← Hwc.out]; rw [Hsz.out]
    refine (sSmallCoset_any _ _ _ _ (hgc _ hE)).mono ?_
    rw [Hs.out.1, Hs.out.2, hs]
    rintro e w1 ⟨rfl, hE1⟩
    have hr := hRc.ext hE1
    unfold Res at hr
    go_wp2_with fail
    exact bodyPost_ret (v := .tuple #[CV 0 (.slice none 0 0) (.slice none 0 0) 0 0 0 0 (.slice none 0 0) (.slice none 0 0) 0, .bool false]) (by simp [results, Tryz.results33, go_sem, hr, CV]) rfl ⟨_, _, _, _, by simp [Hs.out.1, Hs.out.2], ⟨Own.nil _ _ _, Own.nil _ _ _, Own.nil _ _ _, Own.nil _ _ _, Apart.nil_left _, Apart.nil_left _, Apart.nil_left _, Apart.nil_left _, Apart.nil_left _, Apart.nil_left _⟩, hE0.trans (by (repeat (refine Ext.setCell ?_ (Nat.le_refl _) _)); exact hAc.trans hE1)⟩
  · go_enter Tryz.func33, Tryz.ntmps33
    go_wp2_with fail
    rw [← Hwb.out, ← Hwc.out]; rw [Hsz.out]
    refine (sSmallCoset_any _ _ _ _ (hgc _ hE)).mono ?_
    rw [hs]
    rintro e w1 ⟨rfl, hE1⟩
    have kb := hbc _ hE1
    go_wp2_with fail
    refine (l33Group_any _ _ _ (hgc _ hE1)).mono ?_
    rintro e w2 ⟨ao, c, rfl, hO, hE2⟩
    have hr := hRc.ext (hE1.trans hE2)
    unfold Res at hr
    have hw1 : wb.heap.size < w1.heap.size := Nat.lt_of_lt_of_le hwc hE1.size
    go_wp2_with fail
    exact bodyPost_ret (v := .tuple #[CV 7 (.slice ao l.length c) (.slice none 0 0) a 0 (scS l a) (scD l a) (.slice none 0 0) (.slice none 0 0) 0, .bool true]) (by simp [results, Tryz.results33, go_sem, hr, CV]) rfl ⟨_, _, _, _, by simp; rfl, ⟨(show Own 3 w1 _ _ _ by (repeat (refine Own.setCell_below ?_ hw1 _)); exact hO).mono (hE0.trans (hAc.trans hE1)), Own.nil _ _ _, Own.nil _ _ _, Own.nil _ _ _, Apart.nil_right _, Apart.nil_right _, Apart.nil_right _, Apart.nil_left _, Apart.nil_left _, Apart.nil_left _⟩, hE0.trans (by (repeat (refine Ext.setCell ?_ (Nat.le_refl _) _)); exact hAc.trans (hE1.trans hE2))⟩
end Go.Zz

/- The shortest part with the sum 0; claims of sequences. -/
namespace Go.Zz
open Go.RowKit Go.Proofs
set_option maxHeartbeats 2000000
set_option maxRecDepth 20000

theorem castL_inj : ∀ {A B : List Nat}, castL A = castL B → A = B := fun {A B} e => by
  have := congrArg (List.map Int.toNat) e
  simpa [castL, Function.comp_def] using this
theorem castL_nat (X : List Nat) : (castL X).map Int.toNat = X := by simp [castL, Function.comp_def]
theorem seqB_natX {l : List Int} {X : List Nat} (h : seqB l (castL X) = true) : X.length ≤ 12 ∧ isGrp l = true ∧ ∀ x ∈ X, x < 24 := by
  obtain ⟨X', e1, -, h12, hgr, hall⟩ := seqB_nat h
  obtain rfl := castL_inj e1
  exact ⟨h12, hgr, hall⟩
theorem ShortestZero_seq (v u : Value) (l : List Int) (X : List Nat) (w : World) (h : Ints w v l) (hu : Ints w u (castL X)) (hs : seqB l (castL X) = true) :
    Calls Tryz.prog 70 #[.agg #[v], u] w fun e w' => ∃ p, e = .returned (.tuple #[p, .bool (szB l X)]) ∧ Own 3 w w' p (castL (szR l X)) ∧ Ext w w' := by
  obtain ⟨wb, hwb⟩ : ∃ wb, wb = w.alloc (.cells #[v] 27) := ⟨_, rfl⟩
  have hE0 := (Ext.refl w).alloc (.cells #[v] 27)
  have hb := box_cell w v 27
  rw [← hwb] at hE0 hb
  have hg : ∀ W, Ext wb W → Ints W v l := fun W hW => h.ext (hE0.trans hW)
  have hE := Ext.refl wb
  have Hsz : Hid (w.heap.size + 1 = wb.heap.size) := Lib.hid (by rw [hwb]; simp [go_sem])
  have Hwb := Lib.hid hwb
  clear hwb h
  obtain ⟨h12, hgr, hall⟩ := seqB_natX hs
  have Hgu : Hid (∀ W, Ext wb W → Ints W u (castL X)) := Lib.hid fun W hW => hu.ext (hE0.trans hW)
  obtain ⟨ao, c, adr, rfl, hadr, hcell⟩ := hu.nats
  have Hat := Lib.hid (fun (k : Nat) a b c => sz_at (l := l) h12 (k := k) a b c)
  have Hnone := Lib.hid (fun a => sz_none (l := l) h12 a)
  clear hall hgr hadr hcell hu
  go_enter Tryz.func70, Tryz.ntmps70
  go_wp2_with fail
  rw [← Hwb.out]
  go_loopw [6] (fun i wr => ∃ k : Nat, 1 ≤ k ∧ k ≤ X.length + 1 ∧ i = .int .i64 k ∧ (∀ j, 1 ≤ j → j < k → zolB l X j = false) ∧ Ext wb wr) (fun i _ => X.length + 1 - (intOf i).toNat)
  case atStart => exact ⟨1, by omega, by omega, rfl, by omega, hE⟩
  case round =>
    clear hE
    obtain ⟨k, hk1, hk2, rfl, hno, hE⟩ := hrel
    have Hno := Lib.hid hno
    have hbx := hb _ hE
    clear hno
    by_cases hlt : k ≤ X.length
    · cases hz : zolB l X k
      · have Hz := Lib.hid hz
        go_wp2_with (first | (go_at_call 63; refine (IsSequence_val _ _ _ _ _ (hg _ hE) (Hgu.out _ hE) hs).mono ?_; rintro e w' ⟨rfl, hE'⟩; replace hE := hE.trans hE'; clear hE') | (go_at_call 155; refine (ZeroOfLength_seq _ _ _ _ _ _ (hg _ hE) (Hgu.out _ hE) hs hk1 hlt).mono ?_; rw [hz]; rintro e w' ⟨p, rfl, hO, hE'⟩; replace hE := hE.trans hE'; clear hE'))
        go_roundw
        case rel => exact ⟨k + 1, by omega, by omega, by go_num, fun j h1 hj => by by_cases e : j = k; (subst e; exact Hz.out); exact Hno.out j h1 (by omega), hE⟩
        case measure => (simp [intOf]; omega)
      · have Hz := Lib.hid (Hat.out k hk1 Hno.out hz)
        go_wp2_with (first | (go_at_call 63; refine (IsSequence_val _ _ _ _ _ (hg _ hE) (Hgu.out _ hE) hs).mono ?_; rintro e w' ⟨rfl, hE'⟩; replace hE := hE.trans hE'; clear hE') | (go_at_call 155; refine (ZeroOfLength_seq _ _ _ _ _ _ (hg _ hE) (Hgu.out _ hE) hs hk1 hlt).mono ?_; rw [hz]; rintro e w' ⟨p, rfl, hO, hE'⟩; replace hO := hO.mono hE; replace hE := hE.trans hE'; clear hE'))
        exact bodyPost_ret (v := .tuple #[p, .bool true]) (by simp [results, Tryz.results70, go_sem]) rfl ⟨_, by rw [Hz.out.2], by rw [Hz.out.1]; exact hO.mono hE0, hE0.trans hE⟩
    · have Hz := Lib.hid (Hnone.out fun j h1 hj => Hno.out j h1 (by omega))
      have hO : Own 3 wr (wr.alloc (.cells #[] 3)) (.slice (some ⟨wr.heap.size, 0, none⟩) 0 0) (castL []) := own_made (TI := 3) (n := 0) (by omega) (Ext.refl wr) [] rfl
      go_wp2_with fail
      exact bodyPost_ret (v := .tuple #[.slice (some ⟨wr.heap.size, 0, none⟩) 0 0, .bool false]) (by simp [results, Tryz.results70, go_sem]) rfl ⟨_, by rw [Hz.out.2], by rw [Hz.out.1]; exact hO.mono (hE0.trans hE), hE0.trans (hE.alloc _)⟩
theorem sShortestZero_seq (v u : Value) (l : List Int) (X : List Nat) (w : World) (h : Ints w v l) (hu : Ints w u (castL X)) (hs : seqB l (castL X) = true) :
    Calls Tryz.prog 56 #[.agg #[v], u] w fun e w' => ∃ p, e = .returned (.tuple #[p, .bool (szB l X)]) ∧ Own 3 w w' p (castL (szR l X)) ∧ Ext w w' := by
  obtain ⟨wb, hwb⟩ : ∃ wb, wb = w.alloc (.cells #[v] 27) := ⟨_, rfl⟩
  have hE0 := (Ext.refl w).alloc (.cells #[v] 27)
  have hb := box_cell w v 27
  rw [← hwb] at hE0 hb
  have hg : ∀ W, Ext wb W → Ints W v l := fun W hW => h.ext (hE0.trans hW)
  have hE := Ext.refl wb
  have Hsz : Hid (w.heap.size + 1 = wb.heap.size) := Lib.hid (by rw [hwb]; simp [go_sem])
  have Hwb := Lib.hid hwb
  clear hwb h
  obtain ⟨h12, hgr, hall⟩ := seqB_natX hs
  have Hall := Lib.hid hall
  have Hgr := Lib.hid hgr
  have hp := pw_len h12
  have hp1 := pw_pos X.length
  have hs1 := ishl_one (n := X.length) (by omega)
  have Hgu : Hid (∀ W, Ext wb W → Ints W u (castL X)) := Lib.hid fun W hW => hu.ext (hE0.trans hW)
  obtain ⟨ao, c, adr, rfl, hadr, hcell⟩ := hu.nats
  have Hone := Lib.hid (szTo_one l X)
  have Hspec := Lib.hid (szTo_spec l X)
  have Hyes := Lib.hid (fun (c : Nat) a b d => szTo_yes (l := l) (X := X) (c := c) a b d)
  have Hno := Lib.hid (fun (c : Nat) a => szTo_no (l := l) (X := X) (c := c) a)
  have Hlen := Lib.hid (fun (b : Nat) a => szL'_len h12 (b := b) a)
  have Hpl := Lib.hid (fun (b : Nat) a => partL_len (X := X) (by omega) (m := b) a)
  have hO : Own 3 wb (wb.alloc (.cells #[] 3)) (.slice (some ⟨wb.heap.size, 0, none⟩) 0 0) (castL (szL' X (szTo l X 1))) := by
    rw [Hone.out]; exact own_made (TI := 3) (n := 0) (by omega) (Ext.refl wb) [] rfl
  have hEl := hE.alloc (.cells #[] 3)
  clear hall hgr hadr hcell hu
  go_enter Tryz.func56, Tryz.ntmps56
  go_wp2_with fail
  rw [← Hwb.out]; rw [Hsz.out]
  go_loopw [6, 7] (fun p i wr => ∃ c : Nat, 1 ≤ c ∧ c ≤ pw X.length ∧ i = .int .i64 c ∧ Own 3 wb wr p (castL (szL' X (szTo l X c))) ∧ Ext wb wr) (fun _ i _ => pw X.length - (intOf i).toNat)
  case atStart => exact ⟨1, by omega, by omega, rfl, hO, hEl⟩
  case round =>
    clear hE hEl hO
    obtain ⟨c', hc1, hc2, rfl, hO, hE⟩ := hrel
    obtain ⟨c0, HB⟩ : ∃ B, Hid (B = szTo l X c') := ⟨_, Lib.hid rfl⟩
    rw [← HB.out] at hO
    have HBl : Hid (c0 < pw X.length) := Lib.hid (by
      rcases Hspec.out c' with ⟨h, _⟩ | ⟨_, h, _⟩
      · rw [HB.out, h]; omega
      · rw [HB.out]; omega)
    obtain ⟨n2, Hl2⟩ : ∃ n2, Hid (n2 = (szL' X c0).length) := ⟨_, Lib.hid rfl⟩
    obtain ⟨ao2, c2, e2⟩ := hO.nshape
    rw [← Hl2.out] at e2
    subst e2
    have HL2 : Hid (n2 = cnt c0) := Lib.hid (by rw [Hl2.out]; exact Hlen.out c0 (by have := HBl.out; unfold pw at this; exact this))
    have hn24 : n2 ≤ 24 := by rw [HL2.out]; exact cnt_le _
    by_cases hlt : c' < pw X.length
    · have hc24 : c' < 2 ^ 24 := by omega
      obtain ⟨n1, Hl1⟩ : ∃ n1, Hid (n1 = (partL X c').length) := ⟨_, Lib.hid rfl⟩
      have HL1 : Hid (n1 = cnt c') := Lib.hid (by rw [Hl1.out]; exact Hpl.out c' (by unfold pw at hlt; exact hlt))
      have hn1 : n1 ≤ 24 := by rw [HL1.out]; exact cnt_le _
      have H0 : Hid (cnt c0 = 0 ↔ c0 = 0) := Lib.hid ⟨fun e => by
        by_cases h : c0 = 0
        · exact h
        · have := cnt_pos (a := c0) (by omega) (by have := HBl.out; omega); omega, fun e => by rw [e]; exact cnt_zero⟩
      by_cases ht : tot l (partL X c') = 0
      · have hq : ((tot l (partL X c') : Int) == 0) = true := by rw [ht]; simp
        have Ht := Lib.hid ht
        clear ht
        by_cases h0 : n2 = 0
        · have Hn : Hid (szTo l X (c' + 1) = c') := Lib.hid (Hyes.out c' (by omega) Ht.out (Or.inl (by rw [← HB.out]; exact H0.out.1 (by rw [← HL2.out]; exact h0))))
          have hz : ((n2 : Int) == 0) = true := by rw [h0]; rfl
          clear h0
          go_wp2_with (first | (go_at_call 21; refine (sIsSequence_val _ _ _ _ _ (hg _ hE) (Hgu.out _ hE) hs).mono ?_; rintro e w' ⟨rfl, hE'⟩; replace hO := hO.ext hE'; replace hE := hE.trans hE'; clear hE') | (go_at_call 144; refine (l16Part_any _ _ _ _ (Hgu.out _ hE) hc24 (by omega)).mono ?_; rintro e w1 ⟨x1, rfl, hO1, hE1⟩; obtain ⟨ao1, c1, e1⟩ := hO1.nshape; rw [← Hl1.out] at e1; subst e1; replace hO1 := hO1.mono hE; replace hO := hO.ext hE1; replace hE := hE.trans hE1; clear hE1) | (go_at_call 53; refine (l16Sum_any _ _ _ _ _ (hg _ hE) hO1.ints Hgr (Lib.hid fun x hx => Hall.out x (partL_mem hx))).mono ?_; rintro e w' ⟨rfl, hE'⟩; replace hO := hO.ext hE'; replace hO1 := hO1.ext hE'; replace hE := hE.trans hE'; clear hE'))
          go_roundw
          case rel => exact ⟨c' + 1, by omega, by omega, by go_num, by rw [Hn.out]; unfold szL'; rw [if_neg (by omega)]; exact hO1, hE⟩
          case measure => (simp [intOf]; omega)
        · have hz : ((n2 : Int) == 0) = false := by simp; omega
          by_cases h3 : n1 < n2
          · have Hn : Hid (szTo l X (c' + 1) = c') := Lib.hid (Hyes.out c' (by omega) Ht.out (Or.inr (by rw [← HB.out, ← HL1.out, ← HL2.out]; exact h3)))
            clear h0
            go_wp2_with (first | (go_at_call 21; refine (sIsSequence_val _ _ _ _ _ (hg _ hE) (Hgu.out _ hE) hs).mono ?_; rintro e w' ⟨rfl, hE'⟩; replace hO := hO.ext hE'; replace hE := hE.trans hE'; clear hE') | (go_at_call 144; refine (l16Part_any _ _ _ _ (Hgu.out _ hE) hc24 (by omega)).mono ?_; rintro e w1 ⟨x1, rfl, hO1, hE1⟩; obtain ⟨ao1, c1, e1⟩ := hO1.nshape; rw [← Hl1.out] at e1; subst e1; replace hO1 := hO1.mono hE; replace hO := hO.ext hE1; replace hE := hE.trans hE1; clear hE1) | (go_at_call 53; refine (l16Sum_any _ _ _ _ _ (hg _ hE) hO1.ints Hgr (Lib.hid fun x hx => Hall.out x (partL_mem hx))).mono ?_; rintro e w' ⟨rfl, hE'⟩; replace hO := hO.ext hE'; replace hO1 := hO1.ext hE'; replace hE := hE.trans hE'; clear hE'))
            go_roundw
            case rel => exact ⟨c' + 1, by omega, by omega, by go_num, by rw [Hn.out]; unfold szL'; rw [if_neg (by omega)]; exact hO1, hE⟩
            case measure => (simp [intOf]; omega)
          · have Hn : Hid (szTo l X (c' + 1) = c0) := Lib.hid ((Hno.out c' (by
              rintro ⟨_, e | e⟩
              · exact h0 (by rw [HL2.out]; exact H0.out.2 (by rw [HB.out]; exact e))
              · rw [← HB.out, ← HL1.out, ← HL2.out] at e; exact h3 e)).trans HB.out.symm)
            clear h0
            go_wp2_with (first | (go_at_call 21; refine (sIsSequence_val _ _ _ _ _ (hg _ hE) (Hgu.out _ hE) hs).mono ?_; rintro e w' ⟨rfl, hE'⟩; replace hO := hO.ext hE'; replace hE := hE.trans hE'; clear hE') | (go_at_call 144; refine (l16Part_any _ _ _ _ (Hgu.out _ hE) hc24 (by omega)).mono ?_; rintro e w1 ⟨x1, rfl, hO1, hE1⟩; obtain ⟨ao1, c1, e1⟩ := hO1.nshape; rw [← Hl1.out] at e1; subst e1; replace hO1 := hO1.mono hE; replace hO := hO.ext hE1; replace hE := hE.trans hE1; clear hE1) | (go_at_call 53; refine (l16Sum_any _ _ _ _ _ (hg _ hE) hO1.ints Hgr (Lib.hid fun x hx => Hall.out x (partL_mem hx))).mono ?_; rintro e w' ⟨rfl, hE'⟩; replace hO := hO.ext hE'; replace hO1 := hO1.ext hE'; replace hE := hE.trans hE'; clear hE'))
            go_roundw
            case rel => exact ⟨c' + 1, by omega, by omega, by go_num, by rw [Hn.out]; exact hO, hE⟩
            case measure => (simp [intOf]; omega)
      · have hq : ((tot l (partL X c') : Int) == 0) = false := by simp; omega
        have Hn : Hid (szTo l X (c' + 1) = c0) := Lib.hid ((Hno.out c' (fun e => ht e.1)).trans HB.out.symm)
        clear ht
        go_wp2_with (first | (go_at_call 21; refine (sIsSequence_val _ _ _ _ _ (hg _ hE) (Hgu.out _ hE) hs).mono ?_; rintro e w' ⟨rfl, hE'⟩; replace hO := hO.ext hE'; replace hE := hE.trans hE'; clear hE') | (go_at_call 144; refine (l16Part_any _ _ _ _ (Hgu.out _ hE) hc24 (by omega)).mono ?_; rintro e w1 ⟨x1, rfl, hO1, hE1⟩; obtain ⟨ao1, c1, e1⟩ := hO1.nshape; rw [← Hl1.out] at e1; subst e1; replace hO1 := hO1.mono hE; replace hO := hO.ext hE1; replace hE := hE.trans hE1; clear hE1) | (go_at_call 53; refine (l16Sum_any _ _ _ _ _ (hg _ hE) hO1.ints Hgr (Lib.hid fun x hx => Hall.out x (partL_mem hx))).mono ?_; rintro e w' ⟨rfl, hE'⟩; replace hO := hO.ext hE'; replace hO1 := hO1.ext hE'; replace hE := hE.trans hE'; clear hE'))
        go_roundw
        case rel => exact ⟨c' + 1, by omega, by omega, by go_num, by rw [Hn.out]; exact hO, hE⟩
        case measure => (simp [intOf]; omega)
    · have hcl : c' = pw X.length := by omega
      have HcB : Hid (c0 = szN l X) := Lib.hid (by rw [HB.out, hcl]; rfl)
      have Hz : Hid (decide ((0 : Int) < (n2 : Int)) = szB l X) := Lib.hid (by
        unfold szB
        rw [← HcB.out, HL2.out]
        by_cases h : c0 = 0
        · rw [h, cnt_zero]; rfl
        · have := cnt_pos (a := c0) (by omega) (by have := HBl.out; omega)
          rw [decide_eq_true (show (0 : Int) < (cnt c0 : Int) by omega), decide_eq_true h])
      clear hcl
      go_wp2_with fail
      exact bodyPost_ret (v := .tuple #[.slice ao2 n2 c2, .bool (szB l X)]) (by simp [results, Tryz.results56, go_sem, ← Hz.out]) rfl ⟨_, rfl, by unfold szR; rw [← HcB.out]; exact hO.mono hE0, hE0.trans hE⟩
end Go.Zz

/- Plain facts on numbers of terms, sets of partial sums. No program is named here. -/
namespace Go.Zz

/-- how often x stands among the first k -/
def mulTo (xs : List Int) (x : Int) : Nat → Nat
  | 0 => 0
  | k + 1 => if nth xs k = x then mulTo xs x k + 1 else mulTo xs x k
def mulI (xs : List Int) (x : Int) : Nat := mulTo xs x xs.length
theorem mulTo_le (xs : List Int) (x : Int) : ∀ k, mulTo xs x k ≤ k
  | 0 => Nat.le_refl _
  | k + 1 => by
    have := mulTo_le xs x k
    unfold mulTo; split <;> omega
theorem mulTo_yes {xs : List Int} {x : Int} {k : Nat} (h : nth xs k = x) : mulTo xs x (k + 1) = mulTo xs x k + 1 := by
  conv => lhs; unfold mulTo
  rw [if_pos h]
theorem mulTo_no {xs : List Int} {x : Int} {k : Nat} (h : nth xs k ≠ x) : mulTo xs x (k + 1) = mulTo xs x k := by
  conv => lhs; unfold mulTo
  rw [if_neg h]
theorem mulTo_take (xs : List Int) (x : Int) : ∀ k, k ≤ xs.length → mulTo xs x k = (xs.take k).count x
  | 0, _ => by simp [mulTo]
  | k + 1, hk => by
    have ih := mulTo_take xs x k (by omega)
    have e : xs.take (k + 1) = xs.take k ++ [nth xs k] := by
      rw [List.take_add_one]; simp [nth, List.getD, show k < xs.length by omega]
    rw [e, List.count_append, List.count_singleton]
    by_cases h : nth xs k = x
    · rw [mulTo_yes h, ih, h]; simp
    · rw [mulTo_no h, ih]; simp [h]
theorem mulI_count (xs : List Int) (x : Int) : mulI xs x = xs.count x := by
  unfold mulI; rw [mulTo_take xs x _ (Nat.le_refl _), List.take_length]

/-- the sums of parts that are not empty -/
def sbs (l : List Int) (X : List Nat) : Nat := X.foldl (fun o x => (o ||| shiftF l o x) ||| 2 ^ x) 0
theorem sbs_snoc (l : List Int) (X : List Nat) (x : Nat) : sbs l (X ++ [x]) = (sbs l X ||| shiftF l (sbs l X) x) ||| 2 ^ x := by unfold sbs; rw [List.foldl_append]; rfl
theorem sbs_bd {l : List Int} (h : isGrp l = true) : ∀ (X : List Nat), (∀ x ∈ X, x < 24) → sbs l X < 2 ^ 24 := by
  intro X hX
  have : ∀ (X : List Nat) (o : Nat), o < 2 ^ 24 → (∀ x ∈ X, x < 24) → X.foldl (fun o x => (o ||| shiftF l o x) ||| 2 ^ x) o < 2 ^ 24 := by
    intro X
    induction X with
    | nil => intro o ho _; exact ho
    | cons x X ih =>
      intro o ho hX
      rw [List.foldl_cons]
      refine ih _ (Nat.or_lt_two_pow (Nat.or_lt_two_pow ho (shiftF_bd h o x)) (Nat.pow_lt_pow_right (by omega) (hX x (by simp)))) fun y hy => hX y (by simp [hy])
  exact this X 0 (by decide) hX
def zsB (l xs : List Int) : Bool := seqB l xs && decide (tot l (xs.map Int.toNat) = 0)
theorem zsB_no {l xs : List Int} (h : seqB l xs = false) : zsB l xs = false := by unfold zsB; rw [h]; rfl
theorem map_cast (X : List Nat) : (castL X).map Int.toNat = X := by
  unfold castL; rw [List.map_map]
  have : (Int.toNat ∘ fun n : Nat => (n : Int)) = id := by funext n; rfl
  rw [this, List.map_id]
theorem zsB_yes {l : List Int} {X : List Nat} (h : seqB l (castL X) = true) : zsB l (castL X) = (((tot l X : Nat) : Int) == 0) := by
  unfold zsB; rw [h, map_cast, Bool.true_and, Bool.eq_iff_iff, decide_eq_true_iff, beq_iff_eq]; omega
def zfB (l xs : List Int) : Bool := seqB l xs && !(sbs l (xs.map Int.toNat)).testBit 0
theorem zfB_no {l xs : List Int} (h : seqB l xs = false) : zfB l xs = false := by unfold zfB; rw [h]; rfl
theorem zfB_yes {l : List Int} {X : List Nat} (h : seqB l (castL X) = true) : zfB l (castL X) = !(sbs l X).testBit 0 := by
  unfold zfB; rw [h, map_cast, Bool.true_and]
theorem bit0 (n : Nat) : (((n % 2 : Nat) : Int) == 0) = !n.testBit 0 := by
  rw [Nat.testBit_zero]
  rcases Nat.mod_two_eq_zero_or_one n with h | h <;> rw [h] <;> rfl

/-! ### taking the terms of a part out -/
/-- l without the last x -/
def dropLast1 (x : Int) (l : List Int) : List Int := (l.reverse.erase x).reverse
/-- all of P is in T, each as often -/
def subM (T : List Int) : List Int → Bool
  | [] => true
  | x :: P => if x ∈ T then subM (dropLast1 x T) P else false
theorem count_drop1 (x y : Int) (l : List Int) (_ : x ∈ l) : (dropLast1 x l).count y = l.count y - if x = y then 1 else 0 := by
  unfold dropLast1
  rw [List.count_reverse, List.count_erase, List.count_reverse]
  congr 1
  by_cases e : x = y <;> simp [e]
theorem subM_iff : ∀ (P T : List Int), subM T P = true ↔ ∀ x, P.count x ≤ T.count x
  | [], T => by simp [subM]
  | x :: P, T => by
    unfold subM
    by_cases h : x ∈ T
    · rw [if_pos h, subM_iff P]
      have hx : 0 < T.count x := List.count_pos_iff.2 h
      constructor
      · intro H y
        have := H y
        rw [count_drop1 x y T h] at this
        rw [List.count_cons]
        by_cases e : x = y
        · subst e; simp at this ⊢; omega
        · have e' : (x == y) = false := by simpa using e
          rw [if_neg e] at this; simp [e']; omega
      · intro H y
        have := H y
        rw [List.count_cons] at this
        rw [count_drop1 x y T h]
        by_cases e : x = y
        · subst e; simp at this ⊢; omega
        · have e' : (x == y) = false := by simpa using e
          rw [if_neg e]; simp [e'] at this; omega
    · rw [if_neg h]
      constructor
      · intro H; cases H
      · intro H
        have := H x
        rw [List.count_cons] at this
        simp [List.count_eq_zero.2 h] at this
/-- the last place of x among the first k, -1 where there is none -/
def lastTo (xs : List Int) (x : Int) : Nat → Int
  | 0 => -1
  | k + 1 => if nth xs k = x then (k : Int) else lastTo xs x k
theorem lastTo_yes {xs : List Int} {x : Int} {k : Nat} (h : nth xs k = x) : lastTo xs x (k + 1) = (k : Int) := by
  conv => lhs; unfold lastTo
  rw [if_pos h]
theorem lastTo_no {xs : List Int} {x : Int} {k : Nat} (h : nth xs k ≠ x) : lastTo xs x (k + 1) = lastTo xs x k := by
  conv => lhs; unfold lastTo
  rw [if_neg h]
theorem lastTo_lt (xs : List Int) (x : Int) : ∀ k, -1 ≤ lastTo xs x k ∧ lastTo xs x k < (k : Int)
  | 0 => by simp [lastTo]
  | k + 1 => by
    have := lastTo_lt xs x k
    unfold lastTo; split <;> omega
theorem take_snocI (xs : List Int) (k : Nat) (hk : k < xs.length) : xs.take (k + 1) = xs.take k ++ [nth xs k] := by
  rw [List.take_add_one]; simp [nth, List.getD, hk]
theorem lastTo_spec (xs : List Int) (x : Int) : ∀ k, k ≤ xs.length → (lastTo xs x k = -1 ∧ x ∉ xs.take k) ∨
    ∃ a : Nat, lastTo xs x k = (a : Int) ∧ a < k ∧ dropLast1 x (xs.take k) = xs.take a ++ (xs.take k).drop (a + 1) ∧ x ∈ xs.take k
  | 0, _ => Or.inl ⟨rfl, by simp⟩
  | k + 1, hk => by
    by_cases h : nth xs k = x
    · refine Or.inr ⟨k, lastTo_yes h, by omega, ?_, ?_⟩
      · rw [take_snocI xs k (by omega), h]
        unfold dropLast1
        rw [List.reverse_append]
        simp [List.drop_append, List.length_take]
        omega
      · rw [take_snocI xs k (by omega), h]; simp
    · rw [lastTo_no h]
      rcases lastTo_spec xs x k (by omega) with ⟨e, hn⟩ | ⟨a, e, ha, hd, hm⟩
      · refine Or.inl ⟨e, ?_⟩
        rw [take_snocI xs k (by omega), List.mem_append, List.mem_singleton]
        rintro (h1 | h1)
        · exact hn h1
        · exact h h1.symm
      · refine Or.inr ⟨a, e, by omega, ?_, ?_⟩
        · rw [take_snocI xs k (by omega)]
          have hlen : (xs.take k).length = k := by rw [List.length_take]; omega
          rw [List.drop_append_of_le_length (by omega), ← List.append_assoc, ← hd]
          unfold dropLast1
          rw [List.reverse_append, List.reverse_singleton, List.singleton_append, List.erase_cons_tail (by simpa using fun e => h e), List.reverse_cons]
        · rw [take_snocI xs k (by omega)]; simp [hm]
theorem last_no {xs : List Int} {x : Int} (h : lastTo xs x xs.length < 0) : x ∉ xs := by
  rcases lastTo_spec xs x _ (Nat.le_refl _) with ⟨-, hn⟩ | ⟨a, e, -, -, -⟩
  · simpa using hn
  · omega
theorem last_yes {xs : List Int} {x : Int} (h : ¬ lastTo xs x xs.length < 0) : ∃ a : Nat, lastTo xs x xs.length = (a : Int) ∧ a < xs.length ∧ dropLast1 x xs = xs.take a ++ xs.drop (a + 1) ∧ x ∈ xs := by
  rcases lastTo_spec xs x _ (Nat.le_refl _) with ⟨e, -⟩ | ⟨a, e, ha, hd, hm⟩
  · omega
  · rw [List.take_length] at hd hm; exact ⟨a, e, ha, hd, hm⟩
theorem subM_no {T P : List Int} {x : Int} (h : x ∉ T) : subM T (x :: P) = false := by unfold subM; rw [if_neg h]
theorem subM_yes {T P : List Int} {x : Int} (h : x ∈ T) : subM T (x :: P) = subM (dropLast1 x T) P := by
  conv => lhs; unfold subM
  rw [if_pos h]
/-- the program's test -/
def mulOK (T P : List Int) : Bool := (List.range P.length).all fun k => decide (mulI P (nth P k) ≤ mulI T (nth P k))
theorem mulOK_eq (T P : List Int) : mulOK T P = subM T P := by
  rw [Bool.eq_iff_iff, subM_iff]
  unfold mulOK
  rw [List.all_eq_true]
  constructor
  · intro H x
    by_cases hx : x ∈ P
    · obtain ⟨k, hk, rfl⟩ := List.getElem_of_mem hx
      have := H k (List.mem_range.2 hk)
      rw [decide_eq_true_iff, mulI_count, mulI_count, show nth P k = P[k] by simp [nth, List.getD, hk]] at this
      exact this
    · rw [List.count_eq_zero.2 hx]; exact Nat.zero_le _
  · intro H k hk
    rw [decide_eq_true_iff, mulI_count, mulI_count]; exact H _
theorem mulOK_no {T P : List Int} {k : Nat} (hk : k < P.length) (h : mulI T (nth P k) < mulI P (nth P k)) : mulOK T P = false := by
  rw [← Bool.not_eq_true]; intro H
  have := List.all_eq_true.1 H k (List.mem_range.2 hk)
  rw [decide_eq_true_iff] at this; omega
theorem mulOK_yes {T P : List Int} (h : ∀ k, k < P.length → mulI P (nth P k) ≤ mulI T (nth P k)) : mulOK T P = true := by
  unfold mulOK; rw [List.all_eq_true]; intro k hk; rw [decide_eq_true_iff]; exact h k (List.mem_range.1 hk)
end Go.Zz

/- How often a number stands; sums of parts; sequences with the sum zero and without such parts. -/
namespace Go.Zz
open Go.RowKit Go.Proofs
set_option maxHeartbeats 1000000
set_option maxRecDepth 4000

theorem MultiplicityIn_any (u : Value) (xs : List Int) (x : Int) (w : World) (hu : Ints w u xs) :
    Calls Tryz.prog 90 #[u, .int .i64 x] w fun e w' => e = .returned (.int .i64 (mulI xs x : Nat)) ∧ w = w' := by
  obtain ⟨ao, c, adr, rfl, hlen, hadr, hcell⟩ := hu.op
  have hix := ints_index (c := c) elI szI hadr
  clear hadr hu
  go_enter Tryz.func90, Tryz.ntmps90
  go_wp2_with fail
  go_loop [5, 10] (fun n i => ∃ k : Nat, k ≤ xs.length ∧ i = .int .i64 k ∧ n = .int .i64 (mulTo xs x k : Nat)) (fun _ i => xs.length - (intOf i).toNat)
  case atStart => exact ⟨0, by omega, rfl, rfl⟩
  case round =>
    obtain ⟨k, hk, rfl, rfl⟩ := hrel
    have hm := mulTo_le xs x k
    by_cases hlt : k < xs.length
    · have hck := hcell k w hlt (Ext.refl _)
      by_cases e : nth xs k = x
      · have Hn := Lib.hid (mulTo_yes e)
        have hq1 : (x == nth xs k) = true := by rw [e]; simp
        have hq2 : (nth xs k == x) = true := by rw [e]; simp
        clear e
        go_wp2_with fail
        go_round
        case rel => exact ⟨k + 1, by omega, by go_num, by rw [Hn.out]; go_num⟩
        case measure => (simp [intOf]; omega)
      · have Hn := Lib.hid (mulTo_no e)
        have hq1 : (x == nth xs k) = false := by rw [beq_eq_false_iff_ne]; exact fun h => e h.symm
        have hq2 : (nth xs k == x) = false := by rw [beq_eq_false_iff_ne]; exact e
        clear e
        go_wp2_with fail
        go_round
        case rel => exact ⟨k + 1, by omega, by go_num, by rw [Hn.out]⟩
        case measure => (simp [intOf]; omega)
    · have hkl : k = xs.length := by omega
      subst hkl
      go_wp2_with fail
      go_ret
      exact ⟨rfl, rfl⟩
theorem sMultiplicityIn_any (u : Value) (xs : List Int) (x : Int) (w : World) (hu : Ints w u xs) :
    Calls Tryz.prog 140 #[u, .int .i64 x] w fun e w' => e = .returned (.int .i64 (mulI xs x : Nat)) ∧ w = w' := by
  obtain ⟨ao, c, adr, rfl, hlen, hadr, hcell⟩ := hu.op
  have hix := ints_index (c := c) elI szI hadr
  clear hadr hu
  go_enter Tryz.func140, Tryz.ntmps140
  go_wp2_with fail
  go_loop [5, 6] (fun n i => ∃ k : Nat, k ≤ xs.length ∧ i = .int .i64 k ∧ n = .int .i64 (mulTo xs x k : Nat)) (fun _ i => xs.length - (intOf i).toNat)
  case atStart => exact ⟨0, by omega, rfl, rfl⟩
  case round =>
    obtain ⟨k, hk, rfl, rfl⟩ := hrel
    have hm := mulTo_le xs x k
    by_cases hlt : k < xs.length
    · have hck := hcell k w hlt (Ext.refl _)
      by_cases e : nth xs k = x
      · have Hn := Lib.hid (mulTo_yes e)
        have hq1 : (x == nth xs k) = true := by rw [e]; simp
        have hq2 : (nth xs k == x) = true := by rw [e]; simp
        clear e
        go_wp2_with fail
        go_round
        case rel => exact ⟨k + 1, by omega, by go_num, by rw [Hn.out]; go_num⟩
        case measure => (simp [intOf]; omega)
      · have Hn := Lib.hid (mulTo_no e)
        have hq1 : (x == nth xs k) = false := by rw [beq_eq_false_iff_ne]; exact fun h => e h.symm
        have hq2 : (nth xs k == x) = false := by rw [beq_eq_false_iff_ne]; exact e
        clear e
        go_wp2_with fail
        go_round
        case rel => exact ⟨k + 1, by omega, by go_num, by rw [Hn.out]⟩
        case measure => (simp [intOf]; omega)
    · have hkl : k = xs.length := by omega
      subst hkl
      go_wp2_with fail
      go_ret
      exact ⟨rfl, rfl⟩
theorem subsums_any (v u : Value) (l : List Int) (X : List Nat) (w : World) (h : Ints w v l) (hu : Ints w u (castL X)) (Hgr : Hid (isGrp l = true)) (hX : Hid (∀ x ∈ X, x < 24)) :
    Calls Tryz.prog 154 #[.agg #[v], u] w fun e w' => e = .returned (.int .i64 (sbs l X : Nat)) ∧ Ext w w' := by
  obtain ⟨wb, hwb⟩ : ∃ wb, wb = w.alloc (.cells #[v] 27) := ⟨_, rfl⟩
  have hE0 := (Ext.refl w).alloc (.cells #[v] 27)
  have hb := box_cell w v 27
  rw [← hwb] at hE0 hb
  have hg : ∀ W, Ext wb W → Ints W v l := fun W hW => h.ext (hE0.trans hW)
  have hE := Ext.refl wb
  have Hsz : Hid (w.heap.size + 1 = wb.heap.size) := Lib.hid (by rw [hwb]; simp [go_sem])
  have Hwb := Lib.hid hwb
  clear hwb h
  have hu' := hu.ext hE0
  have hlen : X.length ≤ 17592186044416 := by obtain ⟨_, _, _, _, h', _⟩ := hu; simpa [castL_len] using h'
  obtain ⟨ao, c, adr, rfl, hadr, hcell⟩ := hu'.nats
  have hix := ints_index (c := c) elI szI hadr
  clear hadr hu hu'
  go_enter Tryz.func154, Tryz.ntmps154
  go_wp2_with fail
  rw [← Hwb.out]
  go_loopw [5, 10] (fun s i wr => ∃ k : Nat, k ≤ X.length ∧ i = .int .i64 k ∧ s = .int .i64 (sbs l (X.take k) : Nat) ∧ Ext wb wr) (fun _ i _ => X.length - (intOf i).toNat)
  case atStart => exact ⟨0, by omega, rfl, rfl, hE⟩
  case round =>
    clear hE
    obtain ⟨k, hk, rfl, rfl, hE⟩ := hrel
    by_cases hlt : k < X.length
    · have hx := hX.out _ (nthN_mem hlt)
      have hs := sbs_bd Hgr.out (X.take k) fun y hy => hX.out y (List.mem_of_mem_take hy)
      have Ht := Lib.hid (sbs_snoc l (X.take k) (nthN X k))
      have Ht2 := Lib.hid (take_nthN X k hlt)
      obtain ⟨S, hS⟩ : ∃ S, S = sbs l (X.take k) := ⟨_, rfl⟩
      rw [← hS] at hs Ht ⊢
      have hsh := shiftF_bd Hgr.out S (nthN X k)
      have h1 := ishl_one (n := nthN X k) (by omega)
      have h2 : ior (S : Int) (shiftF l S (nthN X k) : Int) = ((S ||| shiftF l S (nthN X k) : Nat) : Int) := ior_nat (by omega) (by omega)
      have h3 := ior_pw (Nat.or_lt_two_pow hs hsh) hx
      have cS := fun W (hW : Ext wr W) => shift_any v l S (nthN X k) W (hg _ (hE.trans hW)) Hgr hs hx
      have hck := fun U => hcell k _ hlt (hE.trans (lat_ext wr U))
      have hck0 := hcell k wr hlt hE
      have hbx := fun U => hb _ (hE.trans (lat_ext wr U))
      have hE1 := hE
      clear hE hS hsh
      have hE := Ext.refl wr
      go_wp2_with fail
      (refine wp_region_lat (wr) (by kernel_rfl) (by kernel_rfl) hE ?_); (repeat (go_big_quiet_step (first | (go_at_call 166; exact Calls.lat (cS _ (lat_ext wr _)))))); (refine wpQuiet_nil ?_); (intro W hE'); (replace hE := lat_of hE'); (clear hE')
      replace hE := hE1.trans hE
      go_wp2_with fail
      go_roundw
      case rel => exact ⟨k + 1, by omega, by go_num, by rw [Ht2.out, Ht.out], hE⟩
      case measure => (simp [intOf]; omega)
    · have hkl : k = X.length := by omega
      subst hkl
      go_wp2_with fail
      go_ret
      exact ⟨ret_int (by rw [List.take_length]), hE0.trans hE⟩
theorem l16Subsums_any (v u : Value) (l : List Int) (X : List Nat) (w : World) (h : Ints w v l) (hu : Ints w u (castL X)) (Hgr : Hid (isGrp l = true)) (hX : Hid (∀ x ∈ X, x < 24)) :
    Calls Tryz.prog 55 #[.agg #[v], u] w fun e w' => e = .returned (.int .i64 (sbs l X : Nat)) ∧ Ext w w' := by
  obtain ⟨wb, hwb⟩ : ∃ wb, wb = w.alloc (.cells #[v] 27) := ⟨_, rfl⟩
  have hE0 := (Ext.refl w).alloc (.cells #[v] 27)
  have hb := box_cell w v 27
  rw [← hwb] at hE0 hb
  have hg : ∀ W, Ext wb W → Ints W v l := fun W hW => h.ext (hE0.trans hW)
  have hE := Ext.refl wb
  have Hsz : Hid (w.heap.size + 1 = wb.heap.size) := Lib.hid (by rw [hwb]; simp [go_sem])
  have Hwb := Lib.hid hwb
  clear hwb h
  have hu' := hu.ext hE0
  have hlen : X.length ≤ 17592186044416 := by obtain ⟨_, _, _, _, h', _⟩ := hu; simpa [castL_len] using h'
  obtain ⟨ao, c, adr, rfl, hadr, hcell⟩ := hu'.nats
  have hix := ints_index (c := c) elI szI hadr
  clear hadr hu hu'
  go_enter Tryz.func55, Tryz.ntmps55
  go_wp2_with fail
  rw [← Hwb.out]
  go_loopw [5, 6] (fun s i wr => ∃ k : Nat, k ≤ X.length ∧ i = .int .i64 k ∧ s = .int .i64 (sbs l (X.take k) : Nat) ∧ Ext wb wr) (fun _ i _ => X.length - (intOf i).toNat)
  case atStart => exact ⟨0, by omega, rfl, rfl, hE⟩
  case round =>
    clear hE
    obtain ⟨k, hk, rfl, rfl, hE⟩ := hrel
    by_cases hlt : k < X.length
    · have hx := hX.out _ (nthN_mem hlt)
      have hs := sbs_bd Hgr.out (X.take k) fun y hy => hX.out y (List.mem_of_mem_take hy)
      have Ht := Lib.hid (sbs_snoc l (X.take k) (nthN X k))
      have Ht2 := Lib.hid (take_nthN X k hlt)
      obtain ⟨S, hS⟩ : ∃ S, S = sbs l (X.take k) := ⟨_, rfl⟩
      rw [← hS] at hs Ht ⊢
      have hsh := shiftF_bd Hgr.out S (nthN X k)
      have h1 := ishl_one (n := nthN X k) (by omega)
      have h2 : ior (S : Int) (shiftF l S (nthN X k) : Int) = ((S ||| shiftF l S (nthN X k) : Nat) : Int) := ior_nat (by omega) (by omega)
      have h3 := ior_pw (Nat.or_lt_two_pow hs hsh) hx
      have cS := fun W (hW : Ext wr W) => l3Shift_any v l S (nthN X k) W (hg _ (hE.trans hW)) Hgr hs hx
      have hck := fun U => hcell k _ hlt (hE.trans (lat_ext wr U))
      have hck0 := hcell k wr hlt hE
      have hbx := fun U => hb _ (hE.trans (lat_ext wr U))
      have hE1 := hE
      clear hE hS hsh
      have hE := Ext.refl wr
      go_wp2_with fail
      (refine wp_region_lat (wr) (by kernel_rfl) (by kernel_rfl) hE ?_); (repeat (go_big_quiet_step (first | (go_at_call 143; exact Calls.lat (cS _ (lat_ext wr _)))))); (refine wpQuiet_nil ?_); (intro W hE'); (replace hE := lat_of hE'); (clear hE')
      replace hE := hE1.trans hE
      go_wp2_with fail
      go_roundw
      case rel => exact ⟨k + 1, by omega, by go_num, by rw [Ht2.out, Ht.out], hE⟩
      case measure => (simp [intOf]; omega)
    · have hkl : k = X.length := by omega
      subst hkl
      go_wp2_with fail
      go_ret
      exact ⟨ret_int (by rw [List.take_length]), hE0.trans hE⟩
theorem IsZeroSum_any (v u : Value) (l xs : List Int) (w : World) (h : Ints w v l) (hu : Ints w u xs) :
    Calls Tryz.prog 89 #[.agg #[v], u] w fun e w' => e = .returned (.bool (zsB l xs)) ∧ Ext w w' := by
  obtain ⟨wb, hwb⟩ : ∃ wb, wb = w.alloc (.cells #[v] 27) := ⟨_, rfl⟩
  have hE0 := (Ext.refl w).alloc (.cells #[v] 27)
  have hb := box_cell w v 27
  rw [← hwb] at hE0 hb
  have hg : ∀ W, Ext wb W → Ints W v l := fun W hW => h.ext (hE0.trans hW)
  have hE := Ext.refl wb
  have Hsz : Hid (w.heap.size + 1 = wb.heap.size) := Lib.hid (by rw [hwb]; simp [go_sem])
  have Hwb := Lib.hid hwb
  clear hwb h
  have hbx := hb wb hE
  have HU := Lib.hid (fun W (hW : Ext wb W) => hu.ext (hE0.trans hW))
  cases hs : seqB l xs
  · have Hs := Lib.hid (zsB_no hs)
    have cS := fun W (hW : Ext wb W) => IsSequence_val v u l xs W (hg _ hW) (HU.out _ hW) hs
    go_enter Tryz.func89, Tryz.ntmps89
    go_wp2_with fail
    rw [← Hwb.out]
    refine (cS _ hE).mono ?_
    rintro e w1 ⟨rfl, hE1⟩
    go_wp2_with fail
    go_ret
    exact ⟨ret_bool Hs.out.symm, hE0.trans hE1⟩
  · have cS := fun W (hW : Ext wb W) => IsSequence_val v u l xs W (hg _ hW) (HU.out _ hW) hs
    obtain ⟨X, rfl, -, -, hgr, hX⟩ := seqB_nat hs
    have Hs := Lib.hid (zsB_yes hs)
    have cT := fun W (hW : Ext wb W) => total_any v u l X W (hg _ hW) (HU.out _ hW) (Lib.hid hgr) (Lib.hid hX)
    clear hX hgr
    go_enter Tryz.func89, Tryz.ntmps89
    go_wp2_with fail
    rw [← Hwb.out]
    refine (cS _ hE).mono ?_
    rintro e w1 ⟨rfl, hE1⟩
    have hb1 := hb w1 hE1
    go_wp2_with fail
    refine (cT _ hE1).mono ?_
    rintro e w2 ⟨rfl, hE2⟩
    go_wp2_with fail
    go_ret
    exact ⟨ret_bool Hs.out.symm, hE0.trans (hE1.trans hE2)⟩
theorem sIsZeroSum_any (v u : Value) (l xs : List Int) (w : World) (h : Ints w v l) (hu : Ints w u xs) :
    Calls Tryz.prog 58 #[.agg #[v], u] w fun e w' => e = .returned (.bool (zsB l xs)) ∧ Ext w w' := by
  obtain ⟨wb, hwb⟩ : ∃ wb, wb = w.alloc (.cells #[v] 27) := ⟨_, rfl⟩
  have hE0 := (Ext.refl w).alloc (.cells #[v] 27)
  have hb := box_cell w v 27
  rw [← hwb] at hE0 hb
  have hg : ∀ W, Ext wb W → Ints W v l := fun W hW => h.ext (hE0.trans hW)
  have hE := Ext.refl wb
  have Hsz : Hid (w.heap.size + 1 = wb.heap.size) := Lib.hid (by rw [hwb]; simp [go_sem])
  have Hwb := Lib.hid hwb
  clear hwb h
  have hbx := hb wb hE
  have HU := Lib.hid (fun W (hW : Ext wb W) => hu.ext (hE0.trans hW))
  cases hs : seqB l xs
  · have Hs := Lib.hid (zsB_no hs)
    have cS := fun W (hW : Ext wb W) => sIsSequence_val v u l xs W (hg _ hW) (HU.out _ hW) hs
    go_enter Tryz.func58, Tryz.ntmps58
    go_wp2_with fail
    rw [← Hwb.out]
    refine (cS _ hE).mono ?_
    rintro e w1 ⟨rfl, hE1⟩
    go_wp2_with fail
    go_ret
    exact ⟨ret_bool Hs.out.symm, hE0.trans hE1⟩
  · have cS := fun W (hW : Ext wb W) => sIsSequence_val v u l xs W (hg _ hW) (HU.out _ hW) hs
    obtain ⟨X, rfl, -, -, hgr, hX⟩ := seqB_nat hs
    have Hs := Lib.hid (zsB_yes hs)
    have cT := fun W (hW : Ext wb W) => l16Sum_any v u l X W (hg _ hW) (HU.out _ hW) (Lib.hid hgr) (Lib.hid hX)
    clear hX hgr
    go_enter Tryz.func58, Tryz.ntmps58
    go_wp2_with fail
    rw [← Hwb.out]
    refine (cS _ hE).mono ?_
    rintro e w1 ⟨rfl, hE1⟩
    have hb1 := hb w1 hE1
    go_wp2_with fail
    refine (cT _ hE1).mono ?_
    rintro e w2 ⟨rfl, hE2⟩
    go_wp2_with fail
    go_ret
    exact ⟨ret_bool Hs.out.symm, hE0.trans (hE1.trans hE2)⟩
theorem IsZeroFree_any (v u : Value) (l xs : List Int) (w : World) (h : Ints w v l) (hu : Ints w u xs) :
    Calls Tryz.prog 76 #[.agg #[v], u] w fun e w' => e = .returned (.bool (zfB l xs)) ∧ Ext w w' := by
  obtain ⟨wb, hwb⟩ : ∃ wb, wb = w.alloc (.cells #[v] 27) := ⟨_, rfl⟩
  have hE0 := (Ext.refl w).alloc (.cells #[v] 27)
  have hb := box_cell w v 27
  rw [← hwb] at hE0 hb
  have hg : ∀ W, Ext wb W → Ints W v l := fun W hW => h.ext (hE0.trans hW)
  have hE := Ext.refl wb
  have Hsz : Hid (w.heap.size + 1 = wb.heap.size) := Lib.hid (by rw [hwb]; simp [go_sem])
  have Hwb := Lib.hid hwb
  clear hwb h
  have hbx := hb wb hE
  have HU := Lib.hid (fun W (hW : Ext wb W) => hu.ext (hE0.trans hW))
  cases hs : seqB l xs
  · have Hs := Lib.hid (zfB_no hs)
    have cS := fun W (hW : Ext wb W) => IsSequence_val v u l xs W (hg _ hW) (HU.out _ hW) hs
    go_enter Tryz.func76, Tryz.ntmps76
    go_wp2_with fail
    rw [← Hwb.out]
    refine (cS _ hE).mono ?_
    rintro e w1 ⟨rfl, hE1⟩
    go_wp2_with fail
    go_ret
    exact ⟨ret_bool Hs.out.symm, hE0.trans hE1⟩
  · have cS := fun W (hW : Ext wb W) => IsSequence_val v u l xs W (hg _ hW) (HU.out _ hW) hs
    obtain ⟨X, rfl, -, -, hgr, hX⟩ := seqB_nat hs
    have Hs := Lib.hid (zfB_yes hs)
    have cT := fun W (hW : Ext wb W) => subsums_any v u l X W (hg _ hW) (HU.out _ hW) (Lib.hid hgr) (Lib.hid hX)
    have hb24 := sbs_bd hgr X hX
    obtain ⟨S, hS⟩ : ∃ S, S = sbs l X := ⟨_, rfl⟩
    rw [← hS] at hb24 cT Hs
    clear hX hgr hS
    go_enter Tryz.func76, Tryz.ntmps76
    go_wp2_with fail
    rw [← Hwb.out]
    refine (cS _ hE).mono ?_
    rintro e w1 ⟨rfl, hE1⟩
    have hb1 := hb w1 hE1
    go_wp2_with fail
    refine (cT _ hE1).mono ?_
    rintro e w2 ⟨rfl, hE2⟩
    go_wp2_with (go_at_call 163; refine (in_any S 0 hb24 (by omega) _).mono ?_; rintro e w' ⟨rfl, rfl⟩)
    go_ret
    exact ⟨ret_bool (by rw [Hs.out]; first | exact bit0 S | rw [Nat.testBit_zero]), hE0.trans (hE1.trans hE2)⟩
theorem sIsZeroFree_any (v u : Value) (l xs : List Int) (w : World) (h : Ints w v l) (hu : Ints w u xs) :
    Calls Tryz.prog 38 #[.agg #[v], u] w fun e w' => e = .returned (.bool (zfB l xs)) ∧ Ext w w' := by
  obtain ⟨wb, hwb⟩ : ∃ wb, wb = w.alloc (.cells #[v] 27) := ⟨_, rfl⟩
  have hE0 := (Ext.refl w).alloc (.cells #[v] 27)
  have hb := box_cell w v 27
  rw [← hwb] at hE0 hb
  have hg : ∀ W, Ext wb W → Ints W v l := fun W hW => h.ext (hE0.trans hW)
  have hE := Ext.refl wb
  have Hsz : Hid (w.heap.size + 1 = wb.heap.size) := Lib.hid (by rw [hwb]; simp [go_sem])
  have Hwb := Lib.hid hwb
  clear hwb h
  have hbx := hb wb hE
  have HU := Lib.hid (fun W (hW : Ext wb W) => hu.ext (hE0.trans hW))
  cases hs : seqB l xs
  · have Hs := Lib.hid (zfB_no hs)
    have cS := fun W (hW : Ext wb W) => sIsSequence_val v u l xs W (hg _ hW) (HU.out _ hW) hs
    go_enter Tryz.func38, Tryz.ntmps38
    go_wp2_with fail
    rw [← Hwb.out]
    refine (cS _ hE).mono ?_
    rintro e w1 ⟨rfl, hE1⟩
    go_wp2_with fail
    go_ret
    exact ⟨ret_bool Hs.out.symm, hE0.trans hE1⟩
  · have cS := fun W (hW : Ext wb W) => sIsSequence_val v u l xs W (hg _ hW) (HU.out _ hW) hs
    obtain ⟨X, rfl, -, -, hgr, hX⟩ := seqB_nat hs
    have Hs := Lib.hid (zfB_yes hs)
    have cT := fun W (hW : Ext wb W) => l16Subsums_any v u l X W (hg _ hW) (HU.out _ hW) (Lib.hid hgr) (Lib.hid hX)
    have hb24 := sbs_bd hgr X hX
    obtain ⟨S, hS⟩ : ∃ S, S = sbs l X := ⟨_, rfl⟩
    rw [← hS] at hb24 cT Hs
    clear hX hgr hS
    go_enter Tryz.func38, Tryz.ntmps38
    go_wp2_with fail
    rw [← Hwb.out]
    refine (cS _ hE).mono ?_
    rintro e w1 ⟨rfl, hE1⟩
    have hb1 := hb w1 hE1
    go_wp2_with fail
    refine (cT _ hE1).mono ?_
    rintro e w2 ⟨rfl, hE2⟩
    have h1 := iand_one (a := S) (by omega); go_wp2_with fail
    go_ret
    exact ⟨ret_bool (by rw [Hs.out]; first | exact bit0 S | rw [Nat.testBit_zero]), hE0.trans (hE1.trans hE2)⟩
end Go.Zz
