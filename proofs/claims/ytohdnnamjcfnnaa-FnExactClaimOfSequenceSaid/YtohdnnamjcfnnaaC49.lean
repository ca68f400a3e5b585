/- Claims of sequences. -/
import Derived.Test.YtohdnnamjcfnnaaC48
namespace Go.Zz
open Go.RowKit Go.Proofs
set_option maxHeartbeats 2000000
set_option maxRecDepth 20000

def cqX (xs : List Int) : List Nat := xs.map Int.toNat
def cqK (l xs : List Int) : Int := if seqB l xs then if szB l (cqX xs) then 2 else 3 else 0
def cqG (l xs : List Int) : List Int := if seqB l xs then l else []
def cqT (l xs : List Int) : List Int := if seqB l xs then xs else []
def cqP (l xs : List Int) : List Int := if seqB l xs then castL (szR l (cqX xs)) else []
theorem cq_no {l xs : List Int} (h : seqB l xs = false) : cqK l xs = 0 ∧ cqG l xs = [] ∧ cqT l xs = [] ∧ cqP l xs = [] := by unfold cqK cqG cqT cqP; rw [h]; exact ⟨rfl, rfl, rfl, rfl⟩
theorem cq_yes {l : List Int} {X : List Nat} (h : seqB l (castL X) = true) (hz : szB l X = true) : cqK l (castL X) = 2 ∧ cqG l (castL X) = l ∧ cqT l (castL X) = castL X ∧ cqP l (castL X) = castL (szR l X) := by
  have e : cqX (castL X) = X := castL_nat X
  unfold cqK cqG cqT cqP; rw [h, e, hz]; exact ⟨rfl, rfl, rfl, rfl⟩
theorem szR_no {l : List Int} {X : List Nat} (hz : szB l X = false) : szR l X = [] := by
  unfold szB at hz
  have : szN l X = 0 := by simpa using hz
  unfold szR szL'; rw [if_pos this]
theorem cq_free {l : List Int} {X : List Nat} (h : seqB l (castL X) = true) (hz : szB l X = false) : cqK l (castL X) = 3 ∧ cqG l (castL X) = l ∧ cqT l (castL X) = castL X ∧ cqP l (castL X) = [] := by
  have e : cqX (castL X) = X := castL_nat X
  unfold cqK cqG cqT cqP; rw [h, e, hz, szR_no hz]; exact ⟨rfl, rfl, rfl, rfl⟩
theorem cqP_len (l m : List Int) : (cqP l m).length ≤ max l.length m.length + 24 := by
  unfold cqP
  split
  · rename_i h
    obtain ⟨X, rfl, -, h12, -⟩ := seqB_nat h
    have e : cqX (castL X) = X := castL_nat X
    rw [e, castL_len, castL_len]
    unfold szR szL'
    split
    · simp
    · have := partL_le X (szN l X); omega
  · simp
theorem own_app {TI : TypeId} {w0 w : World} {v : Value} {xs : List Int} (h : Own TI w0 w v ([] ++ xs)) : Own TI w0 w v xs := h

theorem grown_setCell (w : World) (a : Addr) (u : Value) : w.grownBy (w.setCell a u) (some a.block) :=
  ⟨rfl, rfl, rfl, by simp, fun k _ hk => Below.heap_setCell _ _ _ _ (fun e => hk (by rw [e]))⟩
theorem Own.setCell_ne {TI : TypeId} {w0 w : World} {v : Value} {l : List Int} (h : Own TI w0 w v l) {p : Addr} (hp : v.ownBlock ≠ some p.block) (u : Value) : Own TI w0 (w.setCell p u) v l :=
  h.kept (grown_setCell w p u) (Or.inr hp)
theorem Own.ne_of {TI : TypeId} {w0 w : World} {v : Value} {l : List Int} (h : Own TI w0 w v l) {b : Nat} (hb : b < w0.heap.size ∨ w.heap.size ≤ b) : v.ownBlock ≠ some b := fun e => by
  have := h.blk b e; omega

theorem sClaimOfSequence_any (v u : Value) (l xs : List Int) (w : World) (h : Ints w v l) (hu : Ints w u xs) :
    Calls Try.prog 31 #[.agg #[v], u] w fun e w' => ∃ v1 v2 v3 v4, e = .returned (.tuple #[CV (cqK l xs) v1 v2 0 0 0 0 v3 v4 0, .bool (seqB l xs)]) ∧ Own4 w w' v1 v2 v3 v4 (cqG l xs) [] (cqT l xs) (cqP l xs) ∧ Ext w w' := by
  obtain ⟨wb, hwb⟩ : ∃ wb, wb = w.alloc (.cells #[v] 28) := ⟨_, rfl⟩
  have hE0 := (Ext.refl w).alloc (.cells #[v] 28)
  have hb := box_cell w v 28
  rw [← hwb] at hE0 hb
  have hg : ∀ W, Ext wb W → Ints W v l := fun W hW => h.ext (hE0.trans hW)
  have hE := Ext.refl wb
  have Hsz : Hid (w.heap.size + 1 = wb.heap.size) := Lib.hid (by rw [hwb]; simp [go_sem])
  have Hwb := Lib.hid hwb
  clear hwb h
  obtain ⟨wc, hwc⟩ : ∃ wc, wc = wb.alloc (.cells #[.int .i64 0, .slice none 0 0, .slice none 0 0, .int .i64 0, .int .i64 0, .int .i64 0, .int .i64 0, .slice none 0 0, .slice none 0 0, .int .i64 0] 39) := ⟨_, rfl⟩
  have hBc : Blk wc wb.heap.size 39 #[.int .i64 0, .slice none 0 0, .slice none 0 0, .int .i64 0, .int .i64 0, .int .i64 0, .int .i64 0, .slice none 0 0, .slice none 0 0, .int .i64 0] := by rw [hwc]; exact Blk.new _ _ _
  have hRc : Res wc wb.heap.size 10 := hBc.res (by simp)
  have hAc : Ext wb wc := by rw [hwc]; exact hE.alloc _
  replace hE := Ext.refl wc
  have Hsz2 : Hid (wb.heap.size + 1 = wc.heap.size) := Lib.hid (by rw [hwc]; simp [go_sem])
  have Hwc := Lib.hid hwc
  clear hwc hBc
  have hgc : ∀ W, Ext wc W → Ints W v l := fun W hW => hg W (hAc.trans hW)
  have hbc : ∀ W, Ext wc W → W.cell? ⟨w.heap.size, 0, none⟩ = some v := fun W hW => hb W (hAc.trans hW)
  have hwc : wb.heap.size < wc.heap.size := by have := Hsz2.out; omega
  have Hgu : Hid (∀ W, Ext wc W → Ints W u xs) := Lib.hid fun W hW => hu.ext (hE0.trans (hAc.trans hW))
  cases hs : seqB l xs
  · have Hs := Lib.hid (cq_no hs)
    go_enter Try.func31, Try.ntmps31
    go_wp2_with fail
    rw [← Hwb.out, ← Hwc.out]; rw [Hsz.out]
    refine (sIsSequence_val _ _ _ _ _ (hgc _ hE) (Hgu.out _ hE) hs).mono ?_
    rintro e w1 ⟨rfl, hE1⟩
    have hr := hRc.ext hE1
    unfold Res at hr
    go_wp2_with fail
    exact bodyPost_ret (v := .tuple #[CV 0 (.slice none 0 0) (.slice none 0 0) 0 0 0 0 (.slice none 0 0) (.slice none 0 0) 0, .bool false]) (by simp [results, Try.results31, go_sem, hr, CV]) rfl ⟨_, _, _, _, by rw [Hs.out.1], by rw [Hs.out.2.1, Hs.out.2.2.1, Hs.out.2.2.2]; exact ⟨Own.nil _ _ _, Own.nil _ _ _, Own.nil _ _ _, Own.nil _ _ _, Apart.nil_left _, Apart.nil_left _, Apart.nil_left _, Apart.nil_left _, Apart.nil_left _, Apart.nil_left _⟩, hE0.trans (by (repeat (refine Ext.setCell ?_ (Nat.le_refl _) _)); exact hAc.trans hE1)⟩
  · obtain ⟨X, rfl, -, -, -, -⟩ := seqB_nat hs
    have hlen : X.length ≤ 17592186044416 := by have := (seqB_natX hs).1; omega
    have Hlen : Hid ((castL X).length ≤ 17592186044416) := Lib.hid (by rw [castL_len]; exact hlen)
    cases hz : szB l X
    · have Hs := Lib.hid (cq_free hs hz)
      go_enter Try.func31, Try.ntmps31
      go_wp2_with fail
      rw [← Hwb.out, ← Hwc.out]; rw [Hsz.out]
      refine (sIsSequence_val _ _ _ _ _ (hgc _ hE) (Hgu.out _ hE) hs).mono ?_
      rintro e w1 ⟨rfl, hE1⟩
      go_wp2_with fail
      refine (sShortestZero_seq _ _ _ _ _ (hgc _ hE1) (Hgu.out _ hE1) hs).mono ?_
      rw [hz]
      rintro e w2 ⟨p, rfl, -, hE'⟩
      replace hE1 := hE1.trans hE'
      clear hE'
      go_wp2_with fail
      refine (l33Group_any _ _ _ (hgc _ hE1)).mono ?_
      rintro e w3 ⟨aoG, cG, rfl, hOG, hE'⟩
      have hG1 := hE1
      replace hE1 := hE1.trans hE'
      clear hE'
      have hO : Own 3 w3 (w3.alloc (.cells #[] 3)) (.slice (some ⟨w3.heap.size, 0, none⟩) 0 0) [] := own_made (TI := 3) (n := 0) (by omega) (Ext.refl w3) [] rfl
      have hEl := (Ext.refl w3).alloc (.cells #[] 3)
      have hI := Hgu.out _ (hE1.trans hEl)
      go_wp2_with (at_builtin; refine wp_appends slI rfl _ _ rfl w3 _ _ _ _ _ hO hI hEl (by simpa using Hlen.out) rfl rfl ?_; intro v1 w4 hO1 hE4; replace hO1 := own_app hO1; obtain ⟨ao, c, rfl, -⟩ := hO1.shape; have hr := hRc.ext (hE1.trans hE4); unfold Res at hr)
      have hGw := hOG.ext hE4
      have hA := apart_of hOG hO1 (Nat.le_refl _)
      have hw2 : wb.heap.size < w2.heap.size := Nat.lt_of_lt_of_le hwc hG1.size
      have hw3 : wb.heap.size < w3.heap.size := Nat.lt_of_lt_of_le hwc hE1.size
      exact bodyPost_ret (v := .tuple #[CV 3 (.slice aoG l.length cG) (.slice none 0 0) 0 0 0 0 (.slice ao (castL X).length c) (.slice none 0 0) 0, .bool true]) (by simp [results, Try.results31, go_sem, hr, CV]) rfl ⟨_, _, _, _, by rw [Hs.out.1], by
        rw [Hs.out.2.1, Hs.out.2.2.1, Hs.out.2.2.2]
        exact ⟨(show Own 3 w2 _ _ _ by (repeat (refine Own.setCell_below ?_ hw2 _)); exact hGw).mono (hE0.trans (hAc.trans hG1)), Own.nil _ _ _, (show Own 3 w3 _ _ _ by (repeat (refine Own.setCell_below ?_ hw3 _)); exact hO1).mono (hE0.trans (hAc.trans hE1)), Own.nil _ _ _, Apart.nil_right _, hA, Apart.nil_right _, Apart.nil_left _, Apart.nil_left _, Apart.nil_right _⟩,
        hE0.trans (by (repeat (refine Ext.setCell ?_ (Nat.le_refl _) _)); exact hAc.trans (hE1.trans hE4))⟩
    · have Hs := Lib.hid (cq_yes hs hz)
      go_enter Try.func31, Try.ntmps31
      go_wp2_with fail
      rw [← Hwb.out, ← Hwc.out]; rw [Hsz.out]
      refine (sIsSequence_val _ _ _ _ _ (hgc _ hE) (Hgu.out _ hE) hs).mono ?_
      rintro e w1 ⟨rfl, hE1⟩
      go_wp2_with fail
      refine (sShortestZero_seq _ _ _ _ _ (hgc _ hE1) (Hgu.out _ hE1) hs).mono ?_
      rw [hz]
      rintro e w2 ⟨p, rfl, hOP, hE'⟩
      obtain ⟨aoP, cP, rfl, -⟩ := hOP.shape
      have hP1 := hE1
      replace hE1 := hE1.trans hE'
      clear hE'
      go_wp2_with fail
      refine (l33Group_any _ _ _ (hgc _ hE1)).mono ?_
      rintro e w3 ⟨aoG, cG, rfl, hOG, hE'⟩
      have hG1 := hE1
      have hPG := apart_of hOP hOG (Nat.le_refl _)
      replace hOP := hOP.ext hE'
      replace hE1 := hE1.trans hE'
      clear hE'
      have hO : Own 3 w3 (w3.alloc (.cells #[] 3)) (.slice (some ⟨w3.heap.size, 0, none⟩) 0 0) [] := own_made (TI := 3) (n := 0) (by omega) (Ext.refl w3) [] rfl
      have hEl := (Ext.refl w3).alloc (.cells #[] 3)
      have hI := Hgu.out _ (hE1.trans hEl)
      go_wp2_with (at_builtin; refine wp_appends slI rfl _ _ rfl w3 _ _ _ _ _ hO hI hEl (by simpa using Hlen.out) rfl rfl ?_; intro v1 w4 hO1 hE4; replace hO1 := own_app hO1; obtain ⟨ao, c, rfl, -⟩ := hO1.shape; have hr := hRc.ext (hE1.trans hE4); unfold Res at hr)
      have hGw := hOG.ext hE4
      have hPw := hOP.ext hE4
      have hA := apart_of hOG hO1 (Nat.le_refl _)
      have hB := apart_of hOP hO1 (Nat.le_refl _)
      have hw1 : wb.heap.size < w1.heap.size := Nat.lt_of_lt_of_le hwc hP1.size
      have hw2 : wb.heap.size < w2.heap.size := Nat.lt_of_lt_of_le hwc hG1.size
      have hw3 : wb.heap.size < w3.heap.size := Nat.lt_of_lt_of_le hwc hE1.size
      exact bodyPost_ret (v := .tuple #[CV 2 (.slice aoG l.length cG) (.slice none 0 0) 0 0 0 0 (.slice ao (castL X).length c) (.slice aoP (castL (szR l X)).length cP) 0, .bool true]) (by simp [results, Try.results31, go_sem, hr, CV]) rfl ⟨_, _, _, _, by rw [Hs.out.1], by
        rw [Hs.out.2.1, Hs.out.2.2.1, Hs.out.2.2.2]
        exact ⟨(show Own 3 w2 _ _ _ by (repeat (refine Own.setCell_below ?_ hw2 _)); exact hGw).mono (hE0.trans (hAc.trans hG1)), Own.nil _ _ _, (show Own 3 w3 _ _ _ by (repeat (refine Own.setCell_below ?_ hw3 _)); exact hO1).mono (hE0.trans (hAc.trans hE1)), (show Own 3 w1 _ _ _ by (repeat (refine Own.setCell_below ?_ hw1 _)); exact hPw).mono (hE0.trans (hAc.trans hP1)), Apart.nil_right _, hA, hPG.symm, Apart.nil_left _, Apart.nil_left _, hB.symm⟩,
        hE0.trans (by (repeat (refine Ext.setCell ?_ (Nat.le_refl _) _)); exact hAc.trans (hE1.trans hE4))⟩
theorem ClaimOfSequence_any (v u : Value) (l xs : List Int) (w : World) (h : Ints w v l) (hu : Ints w u xs) :
    Calls Try.prog 33 #[.agg #[v], u] w fun e w' => ∃ v1 v2 v3 v4, e = .returned (.tuple #[CV (cqK l xs) v1 v2 0 0 0 0 v3 v4 0, .bool (seqB l xs)]) ∧ Own4 w w' v1 v2 v3 v4 (cqG l xs) [] (cqT l xs) (cqP l xs) ∧ Ext w w' := by
  obtain ⟨wb, hwb⟩ : ∃ wb, wb = w.alloc (.cells #[v] 28) := ⟨_, rfl⟩
  have hE0 := (Ext.refl w).alloc (.cells #[v] 28)
  have hb := box_cell w v 28
  rw [← hwb] at hE0 hb
  have hg : ∀ W, Ext wb W → Ints W v l := fun W hW => h.ext (hE0.trans hW)
  have hE := Ext.refl wb
  have Hsz : Hid (w.heap.size + 1 = wb.heap.size) := Lib.hid (by rw [hwb]; simp [go_sem])
  have Hwb := Lib.hid hwb
  clear hwb h
  obtain ⟨wc, hwc⟩ : ∃ wc, wc = wb.alloc (.cells #[.int .i64 0, .slice none 0 0, .slice none 0 0, .int .i64 0, .int .i64 0, .int .i64 0, .int .i64 0, .slice none 0 0, .slice none 0 0, .int .i64 0] 39) := ⟨_, rfl⟩
  have hBc : Blk wc wb.heap.size 39 #[.int .i64 0, .slice none 0 0, .slice none 0 0, .int .i64 0, .int .i64 0, .int .i64 0, .int .i64 0, .slice none 0 0, .slice none 0 0, .int .i64 0] := by rw [hwc]; exact Blk.new _ _ _
  have hRc : Res wc wb.heap.size 10 := hBc.res (by simp)
  have hAc : Ext wb wc := by rw [hwc]; exact hE.alloc _
  replace hE := Ext.refl wc
  have Hsz2 : Hid (wb.heap.size + 1 = wc.heap.size) := Lib.hid (by rw [hwc]; simp [go_sem])
  have Hwc := Lib.hid hwc
  clear hwc hBc
  have hgc : ∀ W, Ext wc W → Ints W v l := fun W hW => hg W (hAc.trans hW)
  have hbc : ∀ W, Ext wc W → W.cell? ⟨w.heap.size, 0, none⟩ = some v := fun W hW => hb W (hAc.trans hW)
  have hwc : wb.heap.size < wc.heap.size := by have := Hsz2.out; omega
  have Hgu : Hid (∀ W, Ext wc W → Ints W u xs) := Lib.hid fun W hW => hu.ext (hE0.trans (hAc.trans hW))
  cases hs : seqB l xs
  · have Hs := Lib.hid (cq_no hs)
    go_enter Try.func33, Try.ntmps33
    go_wp2_with fail
    rw [← Hwb.out, ← Hwc.out]; rw [Hsz.out]
    refine (IsSequence_val _ _ _ _ _ (hgc _ hE) (Hgu.out _ hE) hs).mono ?_
    rintro e w1 ⟨rfl, hE1⟩
    have hr := hRc.ext hE1
    unfold Res at hr
    go_wp2_with fail
    exact bodyPost_ret (v := .tuple #[CV 0 (.slice none 0 0) (.slice none 0 0) 0 0 0 0 (.slice none 0 0) (.slice none 0 0) 0, .bool false]) (by simp [results, Try.results33, go_sem, hr, CV]) rfl ⟨_, _, _, _, by rw [Hs.out.1], by rw [Hs.out.2.1, Hs.out.2.2.1, Hs.out.2.2.2]; exact ⟨Own.nil _ _ _, Own.nil _ _ _, Own.nil _ _ _, Own.nil _ _ _, Apart.nil_left _, Apart.nil_left _, Apart.nil_left _, Apart.nil_left _, Apart.nil_left _, Apart.nil_left _⟩, hE0.trans (by (repeat (refine Ext.setCell ?_ (Nat.le_refl _) _)); exact hAc.trans hE1)⟩
  · obtain ⟨X, rfl, -, -, -, -⟩ := seqB_nat hs
    cases hz : szB l X
    · have Hs := Lib.hid (cq_free hs hz)
      go_enter Try.func33, Try.ntmps33
      go_wp2_with fail
      rw [← Hwb.out, ← Hwc.out]; rw [Hsz.out]
      refine (IsSequence_val _ _ _ _ _ (hgc _ hE) (Hgu.out _ hE) hs).mono ?_
      rintro e w1 ⟨rfl, hE1⟩
      go_wp2_with fail
      refine (copyGroup_any _ _ _ (hgc _ hE1)).mono ?_
      rintro e w2 ⟨aoG, cG, rfl, hOG, hE'⟩
      have hG1 := hE1
      replace hE1 := hE1.trans hE'
      clear hE'
      go_wp2_with fail
      refine (Calls.sh (copyInts_any _ _ _ (Hgu.out _ hE1))).mono ?_
      rintro e w3 ⟨aoT, cT, rfl, hOT, hE'⟩
      have hT1 := hE1
      have hA := apart_of hOG hOT (Nat.le_refl _)
      replace hOG := hOG.ext hE'
      replace hE1 := hE1.trans hE'
      clear hE'
      have nG := hOG.ne_of (b := w3.heap.size) (Or.inr (Nat.le_refl _))
      have nT := hOT.ne_of (b := w3.heap.size) (Or.inr (Nat.le_refl _))
      have HnGT := Lib.hid (And.intro nG nT)
      clear nG nT
      obtain ⟨wD, hwD⟩ : ∃ wD, wD = w3.alloc (.cells #[.int .i64 3, .slice aoG l.length cG, .slice none 0 0, .int .i64 0, .int .i64 0, .int .i64 0, .int .i64 0, .slice aoT (castL X).length cT, .slice none 0 0, .int .i64 0] 39) := ⟨_, rfl⟩
      have hDx : Ext w3 wD := by rw [hwD]; exact (Ext.refl _).alloc _
      have BD : Blk wD w3.heap.size 39 #[.int .i64 3, .slice aoG l.length cG, .slice none 0 0, .int .i64 0, .int .i64 0, .int .i64 0, .int .i64 0, .slice aoT (castL X).length cT, .slice none 0 0, .int .i64 0] := by rw [hwD]; exact Blk.new _ _ _
      have HwD := Lib.hid hwD
      clear hwD
      replace hOG := hOG.ext hDx
      replace hOT := hOT.ext hDx
      replace hE1 := hE1.trans hDx
      have kb := hbc _ hE1
      rw [HwD.out] at kb
      go_wp2_with fail
      rw [← HwD.out]
      clear kb
      refine (ShortestZero_seq _ _ _ _ _ (hgc _ hE1) (Hgu.out _ hE1) hs).mono ?_
      rw [hz]
      rintro e w4 ⟨p, rfl, -, hE'⟩
      replace hOG := hOG.ext hE'
      replace hOT := hOT.ext hE'
      replace BD := BD.ext hE'
      replace hE1 := hE1.trans hE'
      clear hE'
      have hr := hRc.ext hE1
      unfold Res at hr
      have z0 := BD.cell (i := 0) rfl
      have z1 := BD.cell (i := 1) rfl
      have z2 := BD.cell (i := 2) rfl
      have z3 := BD.cell (i := 3) rfl
      have z4 := BD.cell (i := 4) rfl
      have z5 := BD.cell (i := 5) rfl
      have z6 := BD.cell (i := 6) rfl
      have z7 := BD.cell (i := 7) rfl
      have z8 := BD.cell (i := 8) rfl
      have z9 := BD.cell (i := 9) rfl
      go_wp2_with fail
      have hw1 : wb.heap.size < w1.heap.size := Nat.lt_of_lt_of_le hwc hG1.size
      have hw2 : wb.heap.size < w2.heap.size := Nat.lt_of_lt_of_le hwc hT1.size
      exact bodyPost_ret (v := .tuple #[CV 3 (.slice aoG l.length cG) (.slice none 0 0) 0 0 0 0 (.slice aoT (castL X).length cT) (.slice none 0 0) 0, .bool true]) (by simp [results, Try.results33, go_sem, hr, CV]) rfl ⟨_, _, _, _, by rw [Hs.out.1], by
        rw [Hs.out.2.1, Hs.out.2.2.1, Hs.out.2.2.2]
        exact ⟨(show Own 3 w1 _ _ _ by (repeat (refine Own.setCell_below ?_ hw1 _)); exact hOG).mono (hE0.trans (hAc.trans hG1)), Own.nil _ _ _, (show Own 3 w2 _ _ _ by (repeat (refine Own.setCell_below ?_ hw2 _)); exact hOT).mono (hE0.trans (hAc.trans hT1)), Own.nil _ _ _, Apart.nil_right _, hA, Apart.nil_right _, Apart.nil_left _, Apart.nil_left _, Apart.nil_right _⟩,
        hE0.trans (by (repeat (refine Ext.setCell ?_ (Nat.le_refl _) _)); exact hAc.trans hE1)⟩
    · have Hs := Lib.hid (cq_yes hs hz)
      go_enter Try.func33, Try.ntmps33
      go_wp2_with fail
      rw [← Hwb.out, ← Hwc.out]; rw [Hsz.out]
      refine (IsSequence_val _ _ _ _ _ (hgc _ hE) (Hgu.out _ hE) hs).mono ?_
      rintro e w1 ⟨rfl, hE1⟩
      go_wp2_with fail
      refine (copyGroup_any _ _ _ (hgc _ hE1)).mono ?_
      rintro e w2 ⟨aoG, cG, rfl, hOG, hE'⟩
      have hG1 := hE1
      replace hE1 := hE1.trans hE'
      clear hE'
      go_wp2_with fail
      refine (Calls.sh (copyInts_any _ _ _ (Hgu.out _ hE1))).mono ?_
      rintro e w3 ⟨aoT, cT, rfl, hOT, hE'⟩
      have hT1 := hE1
      have hA := apart_of hOG hOT (Nat.le_refl _)
      replace hOG := hOG.ext hE'
      replace hE1 := hE1.trans hE'
      clear hE'
      have nG := hOG.ne_of (b := w3.heap.size) (Or.inr (Nat.le_refl _))
      have nT := hOT.ne_of (b := w3.heap.size) (Or.inr (Nat.le_refl _))
      have HnGT := Lib.hid (And.intro nG nT)
      clear nG nT
      obtain ⟨wD, hwD⟩ : ∃ wD, wD = w3.alloc (.cells #[.int .i64 3, .slice aoG l.length cG, .slice none 0 0, .int .i64 0, .int .i64 0, .int .i64 0, .int .i64 0, .slice aoT (castL X).length cT, .slice none 0 0, .int .i64 0] 39) := ⟨_, rfl⟩
      have hDx : Ext w3 wD := by rw [hwD]; exact (Ext.refl _).alloc _
      have BD : Blk wD w3.heap.size 39 #[.int .i64 3, .slice aoG l.length cG, .slice none 0 0, .int .i64 0, .int .i64 0, .int .i64 0, .int .i64 0, .slice aoT (castL X).length cT, .slice none 0 0, .int .i64 0] := by rw [hwD]; exact Blk.new _ _ _
      have HwD := Lib.hid hwD
      clear hwD
      have hE3 := hE1
      replace hOG := hOG.ext hDx
      replace hOT := hOT.ext hDx
      replace hE1 := hE1.trans hDx
      have kb := hbc _ hE1
      rw [HwD.out] at kb
      go_wp2_with fail
      rw [← HwD.out]
      clear kb
      refine (ShortestZero_seq _ _ _ _ _ (hgc _ hE1) (Hgu.out _ hE1) hs).mono ?_
      rw [hz]
      rintro e w4 ⟨p, rfl, hOP, hE'⟩
      obtain ⟨aoP, cP, rfl, -⟩ := hOP.shape
      have hP1 := hE1
      have hGP := apart_of hOG hOP (Nat.le_refl _)
      have hTP := apart_of hOT hOP (Nat.le_refl _)
      replace hOG := hOG.ext hE'
      replace hOT := hOT.ext hE'
      replace BD := BD.ext hE'
      replace hE1 := hE1.trans hE'
      clear hE'
      have hr := hRc.ext hE1
      unfold Res at hr
      have z0 := BD.cell (i := 0) rfl
      have z1 := BD.cell (i := 1) rfl
      have z2 := BD.cell (i := 2) rfl
      have z3 := BD.cell (i := 3) rfl
      have z4 := BD.cell (i := 4) rfl
      have z5 := BD.cell (i := 5) rfl
      have z6 := BD.cell (i := 6) rfl
      have z7 := BD.cell (i := 7) rfl
      have z8 := BD.cell (i := 8) rfl
      have z9 := BD.cell (i := 9) rfl
      have f0 := BD.free 0
      have f8 := BD.free 8
      have hne : ¬ wb.heap.size = w3.heap.size := by have := hE3.size; omega
      have hne' : ¬ w3.heap.size = wb.heap.size := by omega
      go_wp2_with fail
      have hw1 : wb.heap.size < w1.heap.size := Nat.lt_of_lt_of_le hwc hG1.size
      have hw2 : wb.heap.size < w2.heap.size := Nat.lt_of_lt_of_le hwc hT1.size
      have hwD : wb.heap.size < wD.heap.size := Nat.lt_of_lt_of_le hwc hP1.size
      have h3D : w3.heap.size < wD.heap.size := by rw [HwD.out]; simp
      have nP := hOP.ne_of (b := w3.heap.size) (Or.inl h3D)
      exact bodyPost_ret (v := .tuple #[CV 2 (.slice aoG l.length cG) (.slice none 0 0) 0 0 0 0 (.slice aoT (castL X).length cT) (.slice aoP (castL (szR l X)).length cP) 0, .bool true]) (by simp [results, Try.results33, go_sem, hr, CV]) rfl ⟨_, _, _, _, by rw [Hs.out.1], by
        rw [Hs.out.2.1, Hs.out.2.2.1, Hs.out.2.2.2]
        exact ⟨(show Own 3 w1 _ _ _ by (repeat (first | refine Own.setCell_below ?_ hw1 _ | refine Own.setCell_ne ?_ HnGT.out.1 _)); exact hOG).mono (hE0.trans (hAc.trans hG1)), Own.nil _ _ _, (show Own 3 w2 _ _ _ by (repeat (first | refine Own.setCell_below ?_ hw2 _ | refine Own.setCell_ne ?_ HnGT.out.2 _)); exact hOT).mono (hE0.trans (hAc.trans hT1)), (show Own 3 wD _ _ _ by (repeat (first | refine Own.setCell_below ?_ hwD _ | refine Own.setCell_ne ?_ nP _)); exact hOP).mono (hE0.trans (hAc.trans hP1)), Apart.nil_right _, hA, hGP, Apart.nil_left _, Apart.nil_left _, hTP⟩,
        hE0.trans (by (repeat (refine Ext.setCell ?_ (by first | exact Nat.le_refl _ | (simp only []; have := hE3.size; omega)) _)); exact hAc.trans hE1)⟩
end Go.Zz
