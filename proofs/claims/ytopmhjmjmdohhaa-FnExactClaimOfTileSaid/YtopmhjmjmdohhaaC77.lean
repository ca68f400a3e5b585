/- FindTile of the reference; ClaimOfTile of both. -/
import Derived.Test.YtopmhjmjmdohhaaC76
namespace Go.Zz
open Go.RowKit Go.Proofs
set_option maxHeartbeats 2000000
set_option maxRecDepth 4000

theorem sFindTile_any (v : Value) (l : List Int) (a : Int) (w : World) (h : Ints w v l) :
    Calls Try.prog 60 #[.agg #[v], .int .i64 a] w fun e w' => e = .returned (.tuple #[.int .i64 (ftV l a), .bool (ftB l a)]) ∧ Ext w w' := by
  obtain ⟨wb, hwb⟩ : ∃ wb, wb = w.alloc (.cells #[v] 24) := ⟨_, rfl⟩
  have hE0 := (Ext.refl w).alloc (.cells #[v] 24)
  have hb := box_cell w v 24
  rw [← hwb] at hE0 hb
  have hg : ∀ W, Ext wb W → Ints W v l := fun W hW => h.ext (hE0.trans hW)
  have hE := Ext.refl wb
  have Hsz : Hid (w.heap.size + 1 = wb.heap.size) := Lib.hid (by rw [hwb]; simp [go_sem])
  have Hwb := Lib.hid hwb
  clear hwb h
  have hbx := hb wb hE
  cases hs : isSetB l a
  · have Hs := Lib.hid (ft_no (isOneB_no hs))
    go_enter Try.func60, Try.ntmps60
    go_wp2_with fail
    rw [← Hwb.out]
    go_wp2_with (first | (go_at_call 85; refine (sIsSet_val _ _ _ _ (hg _ hE) (hs)).mono ?_; rintro e w' ⟨rfl, hE'⟩; replace hE := hE.trans hE'; clear hE'))
    exact bodyPost_ret (v := .tuple #[.int .i64 0, .bool false]) (by simp [results, Try.results60, go_sem]) rfl ⟨by rw [Hs.out.1, Hs.out.2], hE0.trans hE⟩
  · obtain ⟨n, rfl, hn, hn24, hgr⟩ := isSetB_nat hs
    by_cases h0 : n = 0
    · subst h0
      have Hs : Hid (ftB l ((0 : Nat) : Int) = false ∧ ftV l ((0 : Nat) : Int) = 0) := Lib.hid (ft_no (isOneB_zero l))
      go_enter Try.func60, Try.ntmps60
      go_wp2_with fail
      rw [← Hwb.out]
      go_wp2_with (first | (go_at_call 85; refine (sIsSet_val _ _ _ _ (hg _ hE) (hs)).mono ?_; rintro e w' ⟨rfl, hE'⟩; replace hE := hE.trans hE'; clear hE'))
      exact bodyPost_ret (v := .tuple #[.int .i64 0, .bool false]) (by simp [results, Try.results60, go_sem]) rfl ⟨by rw [Hs.out.1, Hs.out.2], hE0.trans hE⟩
    · have h00 : ((n : Int) == 0) = false := by rw [beq_eq_false_iff_ne]; omega
      have Hgr := Lib.hid hgr
      have hone := isOneB_yes hs (by omega)
      have hca : 1 ≤ cnt n := cnt_pos (by omega) hn24
      have hob := ord_bd hgr
      have hcT : ∀ W, Ext wb W → Calls Try.prog 102 #[.agg #[v], .int .i64 n, .int .i64 (fullN l : Nat), .int .i64 n, .int .i64 1, .int .i64 1] W fun e w' => ∃ v', e = .returned v' ∧ Own 3 W w' v' (castL (tileL l n 1)) ∧ Ext W w' := fun W hW =>
        sSearch_any v l n Hgr h0 hn (ord l + 1) n 1 1 W (hg W hW) (by omega) hn (by decide) (by omega) (by omega)
      have hlenT : (tileL l n 1).length ≤ 1 := tlS_len _ _ _ _ _ _ (by omega)
      have Ho := Lib.hid hone
      have hs1 := ishl_one (n := ord l) (by omega)
      have hpw := pw_le (n := ord l) hob.2
      have hpw1 := pw_pos (ord l)
      have hwr : IntKind.i64.wrap (((pw (ord l) : Nat) : Int) - 1) = ((fullN l : Nat) : Int) := by
        rw [show (((pw (ord l) : Nat) : Int) - 1) = ((fullN l : Nat) : Int) by unfold fullN; omega]
        apply IntWalk.i64_in; unfold fullN; omega
      clear hone hgr h0 hca
      rcases hT : tileL l n 1 with _ | ⟨x, L⟩
      · have Hs := Lib.hid (ft_nil hT)
        rw [hT] at hcT
        clear hT hlenT
        go_enter Try.func60, Try.ntmps60
        go_wp2_with fail
        rw [← Hwb.out]
        refine (sIsSet_val _ _ _ _ (hg _ hE) hs).mono ?_
        rintro e w1 ⟨rfl, hE1⟩
        have hb' := fun W (hW : Ext w1 W) => hb W (hE1.trans hW)
        go_wp2_with fail
        have hD := (Ext.refl (w1)).drew
        first | (go_region_held3 (fun W => Ext (w1) W ∧ W.cell? ⟨w.heap.size, 0, none⟩ = some v) (exact ⟨(by repeat (first | assumption | exact Ext.refl _ | (apply And.left; assumption) | apply Ext.drew | apply Ext.alloc)), hb' _ (by repeat (first | assumption | exact Ext.refl _ | (apply And.left; assumption) | apply Ext.drew | apply Ext.alloc))⟩) (first | (go_at_call 39; ((with_reducible refine Calls.mono (l2Order_any _ _ _ (hg _ (hE1.trans (by repeat (first | assumption | exact Ext.refl _ | (apply And.left; assumption) | apply Ext.drew | apply Ext.alloc)))) Hgr) ?_); rintro e wH0 ⟨rfl, hX0⟩; have hH0 := Ext.trans (a := w1) (by repeat (first | assumption | exact Ext.refl _ | (apply And.left; assumption) | apply Ext.drew | apply Ext.alloc)) hX0)) | (go_at_call 102; ((with_reducible refine Calls.mono (hcT _ (hE1.trans (by repeat (first | assumption | exact Ext.refl _ | (apply And.left; assumption) | apply Ext.drew | apply Ext.alloc)))) ?_); rintro e wH1 ⟨vT, rfl, hO, hX1⟩; have hH1 := Ext.trans (a := w1) (by repeat (first | assumption | exact Ext.refl _ | (apply And.left; assumption) | apply Ext.drew | apply Ext.alloc)) hX1)))) | (fail "the region with calls")
        obtain ⟨aT, cT, rfl, -⟩ := hO.shape
        rw [show (castL []).length = 0 from rfl] at hO ⊢
        go_wp2_with fail
        exact bodyPost_ret (v := .tuple #[.int .i64 0, .bool false]) (by simp [results, Try.results60, go_sem]) rfl ⟨by rw [Hs.out.1, Hs.out.2], hE0.trans (hE1.trans (by repeat (first | assumption | exact Ext.refl _ | (apply And.left; assumption) | apply Ext.drew | apply Ext.alloc)))⟩
      · rw [hT] at hlenT
        have hL : L = [] := List.eq_nil_of_length_eq_zero (by simp at hlenT; simpa using hlenT)
        subst hL
        have Hs := Lib.hid (ft_yes Ho.out hT)
        rw [hT] at hcT
        clear hT hlenT
        go_enter Try.func60, Try.ntmps60
        go_wp2_with fail
        rw [← Hwb.out]
        refine (sIsSet_val _ _ _ _ (hg _ hE) hs).mono ?_
        rintro e w1 ⟨rfl, hE1⟩
        have hb' := fun W (hW : Ext w1 W) => hb W (hE1.trans hW)
        go_wp2_with fail
        have hD := (Ext.refl (w1)).drew
        first | (go_region_held3 (fun W => Ext (w1) W ∧ W.cell? ⟨w.heap.size, 0, none⟩ = some v) (exact ⟨(by repeat (first | assumption | exact Ext.refl _ | (apply And.left; assumption) | apply Ext.drew | apply Ext.alloc)), hb' _ (by repeat (first | assumption | exact Ext.refl _ | (apply And.left; assumption) | apply Ext.drew | apply Ext.alloc))⟩) (first | (go_at_call 39; ((with_reducible refine Calls.mono (l2Order_any _ _ _ (hg _ (hE1.trans (by repeat (first | assumption | exact Ext.refl _ | (apply And.left; assumption) | apply Ext.drew | apply Ext.alloc)))) Hgr) ?_); rintro e wH0 ⟨rfl, hX0⟩; have hH0 := Ext.trans (a := w1) (by repeat (first | assumption | exact Ext.refl _ | (apply And.left; assumption) | apply Ext.drew | apply Ext.alloc)) hX0)) | (go_at_call 102; ((with_reducible refine Calls.mono (hcT _ (hE1.trans (by repeat (first | assumption | exact Ext.refl _ | (apply And.left; assumption) | apply Ext.drew | apply Ext.alloc)))) ?_); rintro e wH1 ⟨vT, rfl, hO, hX1⟩; have hH1 := Ext.trans (a := w1) (by repeat (first | assumption | exact Ext.refl _ | (apply And.left; assumption) | apply Ext.drew | apply Ext.alloc)) hX1)))) | (fail "the region with calls")
        obtain ⟨ao, c, adr, rfl, hlen, hadr, hcell⟩ := hO.ints.op
        have hix : ∀ W, (Instr.indexAt 22 (.slice ao 1 c) (.int .i64 0)).run Try.prog W = .ok (.pointer (some (adr 0))) W := fun W => ints_index (c := c) (n := (castL [x]).length) elI szI hadr 0 W (by simp [castL])
        have hck : wH1.cell? (adr 0) = some (.int .i64 (x : Int)) := hcell 0 wH1 (by simp [castL]) (Ext.refl _)
        clear hlen hadr hcell
        rw [show (castL [x]).length = 1 from rfl] at hO ⊢
        go_wp2_with fail
        exact bodyPost_ret (v := .tuple #[.int .i64 x, .bool true]) (by simp [results, Try.results60, go_sem]) rfl ⟨by rw [Hs.out.1, Hs.out.2], hE0.trans (hE1.trans (by repeat (first | assumption | exact Ext.refl _ | (apply And.left; assumption) | apply Ext.drew | apply Ext.alloc)))⟩
theorem ClaimOfTile_any (v : Value) (l : List Int) (a : Int) (w : World) (h : Ints w v l) :
    Calls Try.prog 24 #[.agg #[v], .int .i64 a] w fun e w' => ∃ v1 v2 v3 v4, e = .returned (.tuple #[CV (if ftB l a then 4 else 0) v1 v2 (if ftB l a then a else 0) (ftV l a) 0 0 v3 v4 0, .bool (ftB l a)]) ∧ Own4 w w' v1 v2 v3 v4 (if ftB l a then l else []) [] [] [] ∧ Ext w w' := by
  obtain ⟨wb, hwb⟩ : ∃ wb, wb = w.alloc (.cells #[v] 24) := ⟨_, rfl⟩
  have hE0 := (Ext.refl w).alloc (.cells #[v] 24)
  have hb := box_cell w v 24
  rw [← hwb] at hE0 hb
  have hg : ∀ W, Ext wb W → Ints W v l := fun W hW => h.ext (hE0.trans hW)
  have hE := Ext.refl wb
  have Hsz : Hid (w.heap.size + 1 = wb.heap.size) := Lib.hid (by rw [hwb]; simp [go_sem])
  have Hwb := Lib.hid hwb
  clear hwb h
  obtain ⟨wc, hwc⟩ : ∃ wc, wc = wb.alloc (.cells #[.int .i64 0, .slice none 0 0, .slice none 0 0, .int .i64 0, .int .i64 0, .int .i64 0, .int .i64 0, .slice none 0 0, .slice none 0 0, .int .i64 0] 26) := ⟨_, rfl⟩
  have hBc : Blk wc wb.heap.size 26 #[.int .i64 0, .slice none 0 0, .slice none 0 0, .int .i64 0, .int .i64 0, .int .i64 0, .int .i64 0, .slice none 0 0, .slice none 0 0, .int .i64 0] := by rw [hwc]; exact Blk.new _ _ _
  have hRc : Res wc wb.heap.size 10 := hBc.res (by simp)
  have hAc : Ext wb wc := by rw [hwc]; exact hE.alloc _
  replace hE := Ext.refl wc
  have Hsz2 : Hid (wb.heap.size + 1 = wc.heap.size) := Lib.hid (by rw [hwc]; simp [go_sem])
  have Hwc := Lib.hid hwc
  clear hwc hBc
  have hgc : ∀ W, Ext wc W → Ints W v l := fun W hW => hg W (hAc.trans hW)
  have hbc : ∀ W, Ext wc W → W.cell? ⟨w.heap.size, 0, none⟩ = some v := fun W hW => hb W (hAc.trans hW)
  have hwc : wb.heap.size < wc.heap.size := by have := Hsz2.out; omega
  have hF0 : ftB l a = false → ftV l a = 0 := fun e => by unfold ftV; rw [e]; rfl
  cases hs : ftB l a
  · have Hs := Lib.hid (hF0 hs)
    go_enter Try.func24, Try.ntmps24
    go_wp2_with fail
    rw [← Hwb.out, ← Hwc.out]; rw [Hsz.out]
    refine (FindTile_any _ _ _ _ (hgc _ hE)).mono ?_
    rw [Hs.out, hs]
    rintro e w1 ⟨rfl, hE1⟩
    have hr := hRc.ext hE1
    unfold Res at hr
    go_wp2_with fail
    exact bodyPost_ret (v := .tuple #[CV 0 (.slice none 0 0) (.slice none 0 0) 0 0 0 0 (.slice none 0 0) (.slice none 0 0) 0, .bool false]) (by simp [results, Try.results24, go_sem, hr, CV]) rfl ⟨_, _, _, _, by simp, ⟨Own.nil _ _ _, Own.nil _ _ _, Own.nil _ _ _, Own.nil _ _ _, Apart.nil_left _, Apart.nil_left _, Apart.nil_left _, Apart.nil_left _, Apart.nil_left _, Apart.nil_left _⟩, hE0.trans (by (repeat (refine Ext.setCell ?_ (Nat.le_refl _) _)); exact hAc.trans hE1)⟩
  · go_enter Try.func24, Try.ntmps24
    go_wp2_with fail
    rw [← Hwb.out, ← Hwc.out]; rw [Hsz.out]
    refine (FindTile_any _ _ _ _ (hgc _ hE)).mono ?_
    rw [hs]
    rintro e w1 ⟨rfl, hE1⟩
    have kb := hbc _ hE1
    go_wp2_with fail
    refine (copyGroup_any _ _ _ (hgc _ hE1)).mono ?_
    rintro e w2 ⟨ao, c, rfl, hO, hE2⟩
    have hr := hRc.ext (hE1.trans hE2)
    unfold Res at hr
    have hw1 : wb.heap.size < w1.heap.size := Nat.lt_of_lt_of_le hwc hE1.size
    go_wp2_with fail
    exact bodyPost_ret (v := .tuple #[CV 4 (.slice ao l.length c) (.slice none 0 0) a (ftV l a) 0 0 (.slice none 0 0) (.slice none 0 0) 0, .bool true]) (by simp [results, Try.results24, go_sem, hr, CV]) rfl ⟨_, _, _, _, by simp; rfl, ⟨(show Own 3 w1 _ _ _ by (repeat (refine Own.setCell_below ?_ hw1 _)); exact hO).mono (hE0.trans (hAc.trans hE1)), Own.nil _ _ _, Own.nil _ _ _, Own.nil _ _ _, Apart.nil_right _, Apart.nil_right _, Apart.nil_right _, Apart.nil_left _, Apart.nil_left _, Apart.nil_left _⟩, hE0.trans (by (repeat (refine Ext.setCell ?_ (Nat.le_refl _) _)); exact hAc.trans (hE1.trans hE2))⟩
theorem sClaimOfTile_any (v : Value) (l : List Int) (a : Int) (w : World) (h : Ints w v l) :
    Calls Try.prog 23 #[.agg #[v], .int .i64 a] w fun e w' => ∃ v1 v2 v3 v4, e = .returned (.tuple #[CV (if ftB l a then 4 else 0) v1 v2 (if ftB l a then a else 0) (ftV l a) 0 0 v3 v4 0, .bool (ftB l a)]) ∧ Own4 w w' v1 v2 v3 v4 (if ftB l a then l else []) [] [] [] ∧ Ext w w' := by
  obtain ⟨wb, hwb⟩ : ∃ wb, wb = w.alloc (.cells #[v] 24) := ⟨_, rfl⟩
  have hE0 := (Ext.refl w).alloc (.cells #[v] 24)
  have hb := box_cell w v 24
  rw [← hwb] at hE0 hb
  have hg : ∀ W, Ext wb W → Ints W v l := fun W hW => h.ext (hE0.trans hW)
  have hE := Ext.refl wb
  have Hsz : Hid (w.heap.size + 1 = wb.heap.size) := Lib.hid (by rw [hwb]; simp [go_sem])
  have Hwb := Lib.hid hwb
  clear hwb h
  obtain ⟨wc, hwc⟩ : ∃ wc, wc = wb.alloc (.cells #[.int .i64 0, .slice none 0 0, .slice none 0 0, .int .i64 0, .int .i64 0, .int .i64 0, .int .i64 0, .slice none 0 0, .slice none 0 0, .int .i64 0] 26) := ⟨_, rfl⟩
  have hBc : Blk wc wb.heap.size 26 #[.int .i64 0, .slice none 0 0, .slice none 0 0, .int .i64 0, .int .i64 0, .int .i64 0, .int .i64 0, .slice none 0 0, .slice none 0 0, .int .i64 0] := by rw [hwc]; exact Blk.new _ _ _
  have hRc : Res wc wb.heap.size 10 := hBc.res (by simp)
  have hAc : Ext wb wc := by rw [hwc]; exact hE.alloc _
  replace hE := Ext.refl wc
  have Hsz2 : Hid (wb.heap.size + 1 = wc.heap.size) := Lib.hid (by rw [hwc]; simp [go_sem])
  have Hwc := Lib.hid hwc
  clear hwc hBc
  have hgc : ∀ W, Ext wc W → Ints W v l := fun W hW => hg W (hAc.trans hW)
  have hbc : ∀ W, Ext wc W → W.cell? ⟨w.heap.size, 0, none⟩ = some v := fun W hW => hb W (hAc.trans hW)
  have hwc : wb.heap.size < wc.heap.size := by have := Hsz2.out; omega
  have hF0 : ftB l a = false → ftV l a = 0 := fun e => by unfold ftV; rw [e]; rfl
  cases hs : ftB l a
  · have Hs := Lib.hid (hF0 hs)
    go_enter Try.func23, Try.ntmps23
    go_wp2_with fail
    rw [← Hwb.out, ← Hwc.out]; rw [Hsz.out]
    refine (sFindTile_any _ _ _ _ (hgc _ hE)).mono ?_
    rw [Hs.out, hs]
    rintro e w1 ⟨rfl, hE1⟩
    have hr := hRc.ext hE1
    unfold Res at hr
    go_wp2_with fail
    exact bodyPost_ret (v := .tuple #[CV 0 (.slice none 0 0) (.slice none 0 0) 0 0 0 0 (.slice none 0 0) (.slice none 0 0) 0, .bool false]) (by simp [results, Try.results23, go_sem, hr, CV]) rfl ⟨_, _, _, _, by simp, ⟨Own.nil _ _ _, Own.nil _ _ _, Own.nil _ _ _, Own.nil _ _ _, Apart.nil_left _, Apart.nil_left _, Apart.nil_left _, Apart.nil_left _, Apart.nil_left _, Apart.nil_left _⟩, hE0.trans (by (repeat (refine Ext.setCell ?_ (Nat.le_refl _) _)); exact hAc.trans hE1)⟩
  · go_enter Try.func23, Try.ntmps23
    go_wp2_with fail
    rw [← Hwb.out, ← Hwc.out]; rw [Hsz.out]
    refine (sFindTile_any _ _ _ _ (hgc _ hE)).mono ?_
    rw [hs]
    rintro e w1 ⟨rfl, hE1⟩
    have kb := hbc _ hE1
    go_wp2_with fail
    refine (l33Group_any _ _ _ (hgc _ hE1)).mono ?_
    rintro e w2 ⟨ao, c, rfl, hO, hE2⟩
    have hr := hRc.ext (hE1.trans hE2)
    unfold Res at hr
    have hw1 : wb.heap.size < w1.heap.size := Nat.lt_of_lt_of_le hwc hE1.size
    go_wp2_with fail
    exact bodyPost_ret (v := .tuple #[CV 4 (.slice ao l.length c) (.slice none 0 0) a (ftV l a) 0 0 (.slice none 0 0) (.slice none 0 0) 0, .bool true]) (by simp [results, Try.results23, go_sem, hr, CV]) rfl ⟨_, _, _, _, by simp; rfl, ⟨(show Own 3 w1 _ _ _ by (repeat (refine Own.setCell_below ?_ hw1 _)); exact hO).mono (hE0.trans (hAc.trans hE1)), Own.nil _ _ _, Own.nil _ _ _, Own.nil _ _ _, Apart.nil_right _, Apart.nil_right _, Apart.nil_right _, Apart.nil_left _, Apart.nil_left _, Apart.nil_left _⟩, hE0.trans (by (repeat (refine Ext.setCell ?_ (Nat.le_refl _) _)); exact hAc.trans (hE1.trans hE2))⟩
end Go.Zz
