/- FindTile of the reference; ClaimOfTile of both. -/
import Derived.Test.YtdlbbpeahicakaaGreatGr18
import Derived.Test.YtdlbbpeahicakaaGreatGr10
import Derived.Test.YtdlbbpeahicakaaGreatGr13
import Derived.Test.YtdlbbpeahicakaaGreatGr9
namespace Go.Zz
open Go.RowKit Go.Proofs
set_option maxHeartbeats 2000000
set_option maxRecDepth 4000

theorem sFindTile_any (v : Value) (l : List Int) (a : Int) (w : World) (h : Ints w v l) :
    Calls Tryz.prog 103 #[.agg #[v], .int .i64 a] w fun e w' => e = .returned (.tuple #[.int .i64 (ftV l a), .bool (ftB l a)]) ∧ Ext w w' := by
  obtain ⟨wb, hwb⟩ : ∃ wb, wb = w.alloc (.cells #[v] 27) := ⟨_, rfl⟩
  have hE0 := (Ext.refl w).alloc (.cells #[v] 27)
  have hb := box_cell w v 27
  rw [← hwb] at hE0 hb
  have hg : ∀ W, Ext wb W → Ints W v l := fun W hW => h.ext (hE0.trans hW)
  have hE := Ext.refl wb
  have Hsz : Hid (w.heap.size + 1 = wb.heap.size) := Lib.hid (by rw [hwb]; simp [go_sem])
  have Hwb := Lib.hid hwb
  clear hwb h
  have hbx := hb wb hE
  cases hs : isSetB l a
  · have Hs := Lib.hid (ft_no (isOneB_no hs))
    go_enter Tryz.func103, Tryz.ntmps103
    go_wp2_with fail
    rw [← Hwb.out]
    go_wp2_with (first | (go_at_call 126; refine (sIsSet_val _ _ _ _ (hg _ hE) (hs)).mono ?_; rintro e w' ⟨rfl, hE'⟩; replace hE := hE.trans hE'; clear hE'))
    exact bodyPost_ret (v := .tuple #[.int .i64 0, .bool false]) (by simp [results, Tryz.results103, go_sem]) rfl ⟨by rw [Hs.out.1, Hs.out.2], hE0.trans hE⟩
  · obtain ⟨n, rfl, hn, hn24, hgr⟩ := isSetB_nat hs
    by_cases h0 : n = 0
    · subst h0
      have Hs : Hid (ftB l ((0 : Nat) : Int) = false ∧ ftV l ((0 : Nat) : Int) = 0) := Lib.hid (ft_no (isOneB_zero l))
      go_enter Tryz.func103, Tryz.ntmps103
      go_wp2_with fail
      rw [← Hwb.out]
      go_wp2_with (first | (go_at_call 126; refine (sIsSet_val _ _ _ _ (hg _ hE) (hs)).mono ?_; rintro e w' ⟨rfl, hE'⟩; replace hE := hE.trans hE'; clear hE'))
      exact bodyPost_ret (v := .tuple #[.int .i64 0, .bool false]) (by simp [results, Tryz.results103, go_sem]) rfl ⟨by rw [Hs.out.1, Hs.out.2], hE0.trans hE⟩
    · have h00 : ((n : Int) == 0) = false := by rw [beq_eq_false_iff_ne]; omega
      have Hgr := Lib.hid hgr
      have hone := isOneB_yes hs (by omega)
      have hca : 1 ≤ cnt n := cnt_pos (by omega) hn24
      have hob := ord_bd hgr
      have hcT : ∀ W, Ext wb W → Calls Tryz.prog 177 #[.agg #[v], .int .i64 n, .int .i64 (fullN l : Nat), .int .i64 n, .int .i64 1, .int .i64 1] W fun e w' => ∃ v', e = .returned v' ∧ Own 3 W w' v' (castL (tileL l n 1)) ∧ Ext W w' := fun W hW =>
        sSearch_any v l n Hgr h0 hn (ord l + 1) n 1 1 W (hg W hW) (by omega) hn (by decide) (by omega) (by omega)
      have hlenT : (tileL l n 1).length ≤ 1 := tlS_len _ _ _ _ _ _ (by omega)
      have Ho := Lib.hid hone
      have hs1 := ishl_one (n := ord l) (by omega)
      have hpw := pw_le (n := ord l) hob.2
      have hpw1 := pw_pos (ord l)
      have hwr : IntKind.i64.wrap (((pw (ord l) : Nat) : Int) - 1) = ((fullN l : Nat) : Int) := by
        rw [show (((pw (ord l) : Nat) : Int) - 1) = ((fullN l : Nat) : Int) by unfold fullN; omega]
        apply IntWalk.i64_in; unfold fullN; omega
      clear hone hgr h0 hca
      rcases hT : tileL l n 1 with _ | ⟨x, L⟩
      · have Hs := Lib.hid (ft_nil hT)
        rw [hT] at hcT
        clear hT hlenT
        go_enter Tryz.func103, Tryz.ntmps103
        go_wp2_with fail
        rw [← Hwb.out]
        refine (sIsSet_val _ _ _ _ (hg _ hE) hs).mono ?_
        rintro e w1 ⟨rfl, hE1⟩
        have hb' := fun W (hW : Ext w1 W) => hb W (hE1.trans hW)
        go_wp2_with fail
        have hD := (Ext.refl (w1)).drew
        first | (go_region_held3 (fun W => Ext (w1) W ∧ W.cell? ⟨w.heap.size, 0, none⟩ = some v) (exact ⟨(by repeat (first | assumption | exact Ext.refl _ | (apply And.left; assumption) | apply Ext.drew | apply Ext.alloc)), hb' _ (by repeat (first | assumption | exact Ext.refl _ | (apply And.left; assumption) | apply Ext.drew | apply Ext.alloc))⟩) (first | (go_at_call 59; ((with_reducible refine Calls.mono (l2Order_any _ _ _ (hg _ (hE1.trans (by repeat (first | assumption | exact Ext.refl _ | (apply And.left; assumption) | apply Ext.drew | apply Ext.alloc)))) Hgr) ?_); rintro e wH0 ⟨rfl, hX0⟩; have hH0 := Ext.trans (a := w1) (by repeat (first | assumption | exact Ext.refl _ | (apply And.left; assumption) | apply Ext.drew | apply Ext.alloc)) hX0)) | (go_at_call 177; ((with_reducible refine Calls.mono (hcT _ (hE1.trans (by repeat (first | assumption | exact Ext.refl _ | (apply And.left; assumption) | apply Ext.drew | apply Ext.alloc)))) ?_); rintro e wH1 ⟨vT, rfl, hO, hX1⟩; have hH1 := Ext.trans (a := w1) (by repeat (first | assumption | exact Ext.refl _ | (apply And.left; assumption) | apply Ext.drew | apply Ext.alloc)) hX1)))) | (fail "the region with calls")
        obtain ⟨aT, cT, rfl, -⟩ := hO.shape
        rw [show (castL []).length = 0 from rfl] at hO ⊢
        go_wp2_with fail
        exact bodyPost_ret (v := .tuple #[.int .i64 0, .bool false]) (by simp [results, Tryz.results103, go_sem]) rfl ⟨by rw [Hs.out.1, Hs.out.2], hE0.trans (hE1.trans (by repeat (first | assumption | exact Ext.refl _ | (apply And.left; assumption) | apply Ext.drew | apply Ext.alloc)))⟩
      · rw [hT] at hlenT
        have hL : L = [] := List.eq_nil_of_length_eq_zero (by simp at hlenT; simpa using hlenT)
        subst hL
        have Hs := Lib.hid (ft_yes Ho.out hT)
        rw [hT] at hcT
        clear hT hlenT
        go_enter Tryz.func103, Tryz.ntmps103
        go_wp2_with fail
        rw [← Hwb.out]
        refine (sIsSet_val _ _ _ _ (hg _ hE) hs).mono ?_
        rintro e w1 ⟨rfl, hE1⟩
        have hb' := fun W (hW : Ext w1 W) => hb W (hE1.trans hW)
        go_wp2_with fail
        have hD := (Ext.refl (w1)).drew
        first | (go_region_held3 (fun W => Ext (w1) W ∧ W.cell? ⟨w.heap.size, 0, none⟩ = some v) (exact ⟨(by repeat (first | assumption | exact Ext.refl _ | (apply And.left; assumption) | apply Ext.drew | apply Ext.alloc)), hb' _ (by repeat (first | assumption | exact Ext.refl _ | (apply And.left; assumption) | apply Ext.drew | apply Ext.alloc))⟩) (first | (go_at_call 59; ((with_reducible refine Calls.mono (l2Order_any _ _ _ (hg _ (hE1.trans (by repeat (first | assumption | exact Ext.refl _ | (apply And.left; assumption) | apply Ext.drew | apply Ext.alloc)))) Hgr) ?_); rintro e wH0 ⟨rfl, hX0⟩; have hH0 := Ext.trans (a := w1) (by repeat (first | assumption | exact Ext.refl _ | (apply And.left; assumption) | apply Ext.drew | apply Ext.alloc)) hX0)) | (go_at_call 177; ((with_reducible refine Calls.mono (hcT _ (hE1.trans (by repeat (first | assumption | exact Ext.refl _ | (apply And.left; assumption) | apply Ext.drew | apply Ext.alloc)))) ?_); rintro e wH1 ⟨vT, rfl, hO, hX1⟩; have hH1 := Ext.trans (a := w1) (by repeat (first | assumption | exact Ext.refl _ | (apply And.left; assumption) | apply Ext.drew | apply Ext.alloc)) hX1)))) | (fail "the region with calls")
        obtain ⟨ao, c, adr, rfl, hlen, hadr, hcell⟩ := hO.ints.op
        have hix : ∀ W, (Instr.indexAt 22 (.slice ao 1 c) (.int .i64 0)).run Tryz.prog W = .ok (.pointer (some (adr 0))) W := fun W => ints_index (c := c) (n := (castL [x]).length) elI szI hadr 0 W (by simp [castL])
        have hck : wH1.cell? (adr 0) = some (.int .i64 (x : Int)) := hcell 0 wH1 (by simp [castL]) (Ext.refl _)
        clear hlen hadr hcell
        rw [show (castL [x]).length = 1 from rfl] at hO ⊢
        go_wp2_with fail
        exact bodyPost_ret (v := .tuple #[.int .i64 x, .bool true]) (by simp [results, Tryz.results103, go_sem]) rfl ⟨by rw [Hs.out.1, Hs.out.2], hE0.trans (hE1.trans (by repeat (first | assumption | exact Ext.refl _ | (apply And.left; assumption) | apply Ext.drew | apply Ext.alloc)))⟩
theorem ClaimOfTile_any (v : Value) (l : List Int) (a : Int) (w : World) (h : Ints w v l) :
    Calls Tryz.prog 23 #[.agg #[v], .int .i64 a] w fun e w' => ∃ v1 v2 v3 v4, e = .returned (.tuple #[CV (if ftB l a then 4 else 0) v1 v2 (if ftB l a then a else 0) (ftV l a) 0 0 v3 v4 0, .bool (ftB l a)]) ∧ Own4 w w' v1 v2 v3 v4 (if ftB l a then l else []) [] [] [] ∧ Ext w w' := by
  obtain ⟨wb, hwb⟩ : ∃ wb, wb = w.alloc (.cells #[v] 27) := ⟨_, rfl⟩
  have hE0 := (Ext.refl w).alloc (.cells #[v] 27)
  have hb := box_cell w v 27
  rw [← hwb] at hE0 hb
  have hg : ∀ W, Ext wb W → Ints W v l := fun W hW => h.ext (hE0.trans hW)
  have hE := Ext.refl wb
  have Hsz : Hid (w.heap.size + 1 = wb.heap.size) := Lib.hid (by rw [hwb]; simp [go_sem])
  have Hwb := Lib.hid hwb
  clear hwb h
  obtain ⟨wc, hwc⟩ : ∃ wc, wc = wb.alloc (.cells #[.int .i64 0, .slice none 0 0, .slice none 0 0, .int .i64 0, .int .i64 0, .int .i64 0, .int .i64 0, .slice none 0 0, .slice none 0 0, .int .i64 0] 38) := ⟨_, rfl⟩
  have hBc : Blk wc wb.heap.size 38 #[.int .i64 0, .slice none 0 0, .slice none 0 0, .int .i64 0, .int .i64 0, .int .i64 0, .int .i64 0, .slice none 0 0, .slice none 0 0, .int .i64 0] := by rw [hwc]; exact Blk.new _ _ _
  have hRc : Res wc wb.heap.size 10 := hBc.res (by simp)
  have hAc : Ext wb wc := by rw [hwc]; exact hE.alloc _
  replace hE := Ext.refl wc
  have Hsz2 : Hid (wb.heap.size + 1 = wc.heap.size) := Lib.hid (by rw [hwc]; simp [go_sem])
  have Hwc := Lib.hid hwc
  clear hwc hBc
  have hgc : ∀ W, Ext wc W → Ints W v l := fun W hW => hg W (hAc.trans hW)
  have hbc : ∀ W, Ext wc W → W.cell? ⟨w.heap.size, 0, none⟩ = some v := fun W hW => hb W (hAc.trans hW)
  have hwc : wb.heap.size < wc.heap.size := by have := Hsz2.out; omega
  have hF0 : ftB l a = false → ftV l a = 0 := fun e => by unfold ftV; rw [e]; rfl
  cases hs : ftB l a
  · have Hs := Lib.hid (hF0 hs)
    go_enter Tryz.func23, Tryz.ntmps23
    go_wp2_with fail
    rw [← Hwb.out, ← Hwc.out]; rw [Hsz.out]
    refine (FindTile_any _ _ _ _ (hgc _ hE)).mono ?_
    rw [Hs.out, hs]
    rintro e w1 ⟨rfl, hE1⟩
    have hr := hRc.ext hE1
    unfold Res at hr
    go_wp2_with fail
    exact bodyPost_ret (v := .tuple #[CV 0 (.slice none 0 0) (.slice none 0 0) 0 0 0 0 (.slice none 0 0) (.slice none 0 0) 0, .bool false]) (by simp [results, Tryz.results23, go_sem, hr, CV]) rfl ⟨_, _, _, _, by simp, ⟨Own.nil _ _ _, Own.nil _ _ _, Own.nil _ _ _, Own.nil _ _ _, Apart.nil_left _, Apart.nil_left _, Apart.nil_left _, Apart.nil_left _, Apart.nil_left _, Apart.nil_left _⟩, hE0.trans (by (repeat (refine Ext.setCell ?_ (Nat.le_refl _) _)); exact hAc.trans hE1)⟩
  · go_enter Tryz.func23, Tryz.ntmps23
    go_wp2_with fail
    rw [← Hwb.out, ← Hwc.out]; rw [Hsz.out]
    refine (FindTile_any _ _ _ _ (hgc _ hE)).mono ?_
    rw [hs]
    rintro e w1 ⟨rfl, hE1⟩
    have kb := hbc _ hE1
    go_wp2_with fail
    refine (copyGroup_any _ _ _ (hgc _ hE1)).mono ?_
    rintro e w2 ⟨ao, c, rfl, hO, hE2⟩
    have hr := hRc.ext (hE1.trans hE2)
    unfold Res at hr
    have hw1 : wb.heap.size < w1.heap.size := Nat.lt_of_lt_of_le hwc hE1.size
    go_wp2_with fail
    exact bodyPost_ret (v := .tuple #[CV 4 (.slice ao l.length c) (.slice none 0 0) a (ftV l a) 0 0 (.slice none 0 0) (.slice none 0 0) 0, .bool true]) (by simp [results, Tryz.results23, go_sem, hr, CV]) rfl ⟨_, _, _, _, by simp; rfl, ⟨(show Own 3 w1 _ _ _ by (repeat (refine Own.setCell_below ?_ hw1 _)); exact hO).mono (hE0.trans (hAc.trans hE1)), Own.nil _ _ _, Own.nil _ _ _, Own.nil _ _ _, Apart.nil_right _, Apart.nil_right _, Apart.nil_right _, Apart.nil_left _, Apart.nil_left _, Apart.nil_left _⟩, hE0.trans (by (repeat (refine Ext.setCell ?_ (Nat.le_refl _) _)); exact hAc.trans (hE1.trans hE2))⟩
theorem sClaimOfTile_any (v : Value) (l : List Int) (a : Int) (w : World) (h : Ints w v l) :
    Calls Tryz.prog 24 #[.agg #[v], .int .i64 a] w fun e w' => ∃ v1 v2 v3 v4, e = .returned (.tuple #[CV (if ftB l a then 4 else 0) v1 v2 (if ftB l a then a else 0) (ftV l a) 0 0 v3 v4 0, .bool (ftB l a)]) ∧ Own4 w w' v1 v2 v3 v4 (if ftB l a then l else []) [] [] [] ∧ Ext w w' := by
  obtain ⟨wb, hwb⟩ : ∃ wb, wb = w.alloc (.cells #[v] 27) := ⟨_, rfl⟩
  have hE0 := (Ext.refl w).alloc (.cells #[v] 27)
  have hb := box_cell w v 27
  rw [← hwb] at hE0 hb
  have hg : ∀ W, Ext wb W → Ints W v l := fun W hW => h.ext (hE0.trans hW)
  have hE := Ext.refl wb
  have Hsz : Hid (w.heap.size + 1 = wb.heap.size) := Lib.hid (by rw [hwb]; simp [go_sem])
  have Hwb := Lib.hid hwb
  clear hwb h
  obtain ⟨wc, hwc⟩ : ∃ wc, wc = wb.alloc (.cells #[.int .i64 0, .slice none 0 0, .slice none 0 0, .int .i64 0, .int .i64 0, .int .i64 0, .int .i64 0, .slice none 0 0, .slice none 0 0, .int .i64 0] 38) := ⟨_, rfl⟩
  have hBc : Blk wc wb.heap.size 38 #[.int .i64 0, .slice none 0 0, .slice none 0 0, .int .i64 0, .int .i64 0, .int .i64 0, .int .i64 0, .slice none 0 0, .slice none 0 0, .int .i64 0] := by rw [hwc]; exact Blk.new _ _ _
  have hRc : Res wc wb.heap.size 10 := hBc.res (by simp)
  have hAc : Ext wb wc := by rw [hwc]; exact hE.alloc _
  replace hE := Ext.refl wc
  have Hsz2 : Hid (wb.heap.size + 1 = wc.heap.size) := Lib.hid (by rw [hwc]; simp [go_sem])
  have Hwc := Lib.hid hwc
  clear hwc hBc
  have hgc : ∀ W, Ext wc W → Ints W v l := fun W hW => hg W (hAc.trans hW)
  have hbc : ∀ W, Ext wc W → W.cell? ⟨w.heap.size, 0, none⟩ = some v := fun W hW => hb W (hAc.trans hW)
  have hwc : wb.heap.size < wc.heap.size := by have := Hsz2.out; omega
  have hF0 : ftB l a = false → ftV l a = 0 := fun e => by unfold ftV; rw [e]; rfl
  cases hs : ftB l a
  · have Hs := Lib.hid (hF0 hs)
    go_enter Tryz.func24, Tryz.ntmps24
    go_wp2_with fail
    rw [← Hwb.out, ← Hwc.out]; rw [Hsz.out]
    refine (sFindTile_any _ _ _ _ (hgc _ hE)).mono ?_
    rw [Hs.out, hs]
    rintro e w1 ⟨rfl, hE1⟩
    have hr := hRc.ext hE1
    unfold Res at hr
    go_wp2_with fail
    exact bodyPost_ret (v := .tuple #[CV 0 (.slice none 0 0) (.slice none 0 0) 0 0 0 0 (.slice none 0 0) (.slice none 0 0) 0, .bool false]) (by simp [results, Tryz.results24, go_sem, hr, CV]) rfl ⟨_, _, _, _, by simp, ⟨Own.nil _ _ _, Own.nil _ _ _, Own.nil _ _ _, Own.nil _ _ _, Apart.nil_left _, Apart.nil_left _, Apart.nil_left _, Apart.nil_left _, Apart.nil_left _, Apart.nil_left _⟩, hE0.trans (by (repeat (refine Ext.setCell ?_ (Nat.le_refl _) _)); exact hAc.trans hE1)⟩
  · go_enter Tryz.func24, Tryz.ntmps24
    go_wp2_with fail
    rw [← Hwb.out, ← Hwc.out]; rw [Hsz.out]
    refine (sFindTile_any _ _ _ _ (hgc _ hE)).mono ?_
    rw [hs]
    rintro e w1 ⟨rfl, hE1⟩
    have kb := hbc _ hE1
    go_wp2_with fail
    refine (l33Group_any _ _ _ (hgc _ hE1)).mono ?_
    rintro e w2 ⟨ao, c, rfl, hO, hE2⟩
    have hr := hRc.ext (hE1.trans hE2)
    unfold Res at hr
    have hw1 : wb.heap.size < w1.heap.size := Nat.lt_of_lt_of_le hwc hE1.size
    go_wp2_with fail
    exact bodyPost_ret (v := .tuple #[CV 4 (.slice ao l.length c) (.slice none 0 0) a (ftV l a) 0 0 (.slice none 0 0) (.slice none 0 0) 0, .bool true]) (by simp [results, Tryz.results24, go_sem, hr, CV]) rfl ⟨_, _, _, _, by simp; rfl, ⟨(show Own 3 w1 _ _ _ by (repeat (refine Own.setCell_below ?_ hw1 _)); exact hO).mono (hE0.trans (hAc.trans hE1)), Own.nil _ _ _, Own.nil _ _ _, Own.nil _ _ _, Apart.nil_right _, Apart.nil_right _, Apart.nil_right _, Apart.nil_left _, Apart.nil_left _, Apart.nil_left _⟩, hE0.trans (by (repeat (refine Ext.setCell ?_ (Nat.le_refl _) _)); exact hAc.trans (hE1.trans hE2))⟩
end Go.Zz

/- TilesOf of the reference: its tiles are put in ascending order. -/
namespace Go.Zz
open Go.RowKit Go.Proofs
set_option maxHeartbeats 2000000
set_option maxRecDepth 8000

theorem castL_put (L : List Nat) (n k : Nat) : (castL L).take k ++ [(n : Int)] ++ (castL L).drop k = castL (putAt L n k) := by
  unfold putAt castL; simp [List.map_take, List.map_drop]
theorem l5Put_two (u : Value) (L : List Nat) (n : Nat) (w : World) (h : Ints w u (castL L)) (hL : L.length ≤ 100000) :
    Calls Tryz.prog 146 #[u, .int .i64 n] w fun e w' => ∃ v', e = .returned v' ∧ (v' = u ∧ putN L n = L ∨ Own 3 w w' v' (castL (putN L n))) ∧ Ext w w' := by
  have HI := Lib.hid (fun W (hW : Ext w W) => h.ext hW)
  obtain ⟨ao, c, adrL, rfl, hadrL, hcellL⟩ := h.nats
  have hixL := ints_index (c := c) elI szI hadrL
  have hE := Ext.refl w
  have hcap : L.length ≤ c := by
    obtain ⟨_, _, hv, hc, _⟩ := h
    rw [castL_len] at hv hc
    simp only [Value.slice.injEq] at hv
    omega
  have HI : Hid (∀ W, Ext w W → Ints W (.slice ao L.length c) (castL L)) := HI
  clear h hadrL
  go_enter Tryz.func146, Tryz.ntmps146
  go_wp2_with fail
  go_loop [5] (fun sk => ∃ k : Nat, k ≤ L.length ∧ sk = .int .i64 k ∧ Hid (pkN L n L.length = pkN L n k)) (fun sk => (intOf sk).toNat)
  case atStart => exact ⟨L.length, Nat.le_refl _, rfl, Lib.hid rfl⟩
  case round =>
    obtain ⟨k, hk, rfl, HP⟩ := hrel
    have hc4 : k = 0 ∨ (∃ j, k = j + 1 ∧ n < nthN L j) ∨ (∃ j, k = j + 1 ∧ nthN L j = n) ∨ (∃ j, k = j + 1 ∧ nthN L j < n) := by
      by_cases hk0 : k = 0
      · exact Or.inl hk0
      · obtain ⟨j, rfl⟩ : ∃ j, k = j + 1 := ⟨k - 1, by omega⟩
        rcases Nat.lt_trichotomy n (nthN L j) with h | h | h
        · exact Or.inr (Or.inl ⟨j, rfl, h⟩)
        · exact Or.inr (Or.inr (Or.inl ⟨j, rfl, h.symm⟩))
        · exact Or.inr (Or.inr (Or.inr ⟨j, rfl, h⟩))
    have Hcell := Lib.hid hcellL
    clear hcellL
    rcases hc4 with hk0 | ⟨j, rfl, hlt⟩ | ⟨j, rfl, he⟩ | ⟨j, hkj, hlt⟩
    · have Hp : Hid (putN L n = putAt L n k) := Lib.hid (by rw [hk0] at HP ⊢; exact putN_zero HP.out)
      have hkz : ¬ (0 : Int) < (k : Int) := by omega
      clear hk0
      have hsl := fun W => run_cut (P := Tryz.prog) elI szI ao L.length c (k : Int) (by omega) (by omega) W
      have hsa := fun W => run_cutAt (P := Tryz.prog) elI szI ao L.length c (k : Int) (by omega) (by omega) W
      have hfl := fun W => run_cutFrom (P := Tryz.prog) elI szI ao L.length c (k : Int) (by omega) (by omega) W
      have hfa := fun W => run_cutFromAt (P := Tryz.prog) elI szI ao L.length c (k : Int) (by omega) (by omega) W
      rw [show ((k : Int)).toNat = k by omega] at hsl hsa hfl hfa
      have hcl : (castL L).length = L.length := castL_len L
      have Hpq : Hid (castL (putN L n) = (castL L).take k ++ [(n : Int)] ++ (castL L).drop k) := Lib.hid (by rw [Hp.out, castL_put])
      have HA := Lib.hid (fun W (hW : Ext w W) => (HI.out W hW).take (k := k) (by omega))
      have HB := Lib.hid (fun W (hW : Ext w W) => (HI.out W hW).drop (k := k) (by omega))
      have hln1 : ((castL L).take k).length + [(n : Int)].length ≤ 17592186044416 := by rw [List.length_take, List.length_singleton]; omega
      have hln2 : ((castL L).take k ++ [(n : Int)]).length + ((castL L).drop k).length ≤ 17592186044416 := by rw [List.length_append, List.length_take, List.length_singleton, List.length_drop]; omega
      obtain ⟨A, hA⟩ : ∃ A, A = (castL L).take k := ⟨_, rfl⟩
      obtain ⟨B, hB⟩ : ∃ B, B = (castL L).drop k := ⟨_, rfl⟩
      rw [← hA] at HA hln1 hln2 Hpq
      rw [← hB] at HB hln2 Hpq
      clear hA hB hcl
      go_wp2_with fail
      first | (go_region_held3 (fun W => Ext w W) (exact (by repeat (first | assumption | exact Ext.refl _ | (apply And.left; assumption) | apply Ext.drew | apply Ext.alloc))) (first | ((refine step_appendsE slI rfl _ _ rfl w w ?_ ?_ (A ++ [(n : Int)]) (B) ?_ ?_ ?_ hln2 ?_ ?_ ?_); (rotate_left 2); (focus (first | (with_reducible assumption) | ((refine OwnE.ext (w := ?_) ?_ ?_); (rotate_left 1); (focus (with_reducible assumption)); repeat (first | assumption | exact Ext.refl _ | (apply And.left; assumption) | apply Ext.drew | apply Ext.alloc)))); (rotate_left 2); rfl; rfl; (rotate_left 1); (focus (exact HB.out _ (by repeat (first | assumption | exact Ext.refl _ | (apply And.left; assumption) | apply Ext.drew | apply Ext.alloc)))); (focus (repeat (first | assumption | exact Ext.refl _ | (apply And.left; assumption) | apply Ext.drew | apply Ext.alloc))); (intro vF wF hOF hXF hTF)) | ((refine step_appendsE slI rfl _ _ rfl w w ?_ ?_ (A) ([(n : Int)]) ?_ ?_ ?_ hln1 ?_ ?_ ?_); (rotate_left 2); (focus (first | (with_reducible assumption) | ((refine OwnE.ext (w := ?_) ?_ ?_); (rotate_left 1); (focus (with_reducible assumption)); repeat (first | assumption | exact Ext.refl _ | (apply And.left; assumption) | apply Ext.drew | apply Ext.alloc)))); (rotate_left 2); rfl; rfl; (rotate_left 1); (focus (refine Blk.ints1 (T := 3) ?_; (repeat (first | (with_reducible assumption) | (with_reducible exact Blk.new _ _ _) | ((with_reducible refine Blk.new' ?_); simp [go_sem]; done) | (with_reducible apply Blk.alloc) | (with_reducible apply Blk.drew) | (with_reducible refine Blk.ext ?_ hEC))))); (focus (repeat (first | assumption | exact Ext.refl _ | (apply And.left; assumption) | apply Ext.drew | apply Ext.alloc))); (intro vD wD hOD hXD hTD)) | ((refine step_copy2 slI rfl _ _ rfl ?_ ?_ (A) ?_ ?_ ?_ ?_ w ?_ ?_ ?_); (rotate_left 2); rfl; rfl; (focus (repeat (first | (with_reducible assumption) | (with_reducible exact Blk.new _ _ _) | ((with_reducible refine Blk.new' ?_); simp [go_sem]; done) | (with_reducible apply Blk.alloc) | (with_reducible apply Blk.drew)))); (exact HA.out _ (by repeat (first | assumption | exact Ext.refl _ | (apply And.left; assumption) | apply Ext.drew | apply Ext.alloc))); (focus (first | exact Nat.le_refl _ | omega | (simp; omega))); (focus (repeat (first | assumption | exact Ext.refl _ | (apply And.left; assumption) | apply Ext.drew | apply Ext.alloc))); (intro aoC cC wC hOC hZC hEC; have hXC := Ext.trans (a := w) (by repeat (first | assumption | exact Ext.refl _ | (apply And.left; assumption) | apply Ext.drew | apply Ext.alloc)) hEC; have hOEC : OwnE 3 w w wC _ _ := Or.inr hOC)))) | (fail "the region")
      all_goals
        obtain ⟨aoN, cN, rfl, hON, hEN⟩ := MiP.of hOF hXF
        go_wp2_with fail
        go_ret
        exact ⟨_, rfl, Or.inr (by rw [Hpq.out]; exact hON), hEN⟩
    · have hlj : j < L.length := by omega
      have hck := Hcell.out j w hlj hE
      obtain ⟨Y, hY⟩ : ∃ Y, Y = nthN L j := ⟨_, rfl⟩
      rw [← hY] at hck hlt
      have hixj := hixL j
      have hw1 : IntKind.i64.wrap (((j + 1 : Nat) : Int) - 1) = (j : Int) := by rw [show (((j + 1 : Nat) : Int) - 1) = (j : Int) by omega]; exact IntWalk.i64_in _ (by omega)
      have hw2 : (((j + 1 : Nat) : Int) - 1) = (j : Int) := by omega
      have hkz : (0 : Int) < ((j + 1 : Nat) : Int) := by omega
      have Hn : Hid (pkN L n L.length = pkN L n j) := Lib.hid (by rw [HP.out, pkN_down (by rw [← hY]; exact hlt)])
      have hq : (n : Int) < (Y : Int) := by omega
      clear hY
      go_wp2_with fail
      go_round
      case rel => exact ⟨j, by omega, by go_num, Hn⟩
      case measure => (first | (simp [intOf]; done) | (simp [intOf]; omega))
    · have hlj : j < L.length := by omega
      have hck := Hcell.out j w hlj hE
      have Hs : Hid (pkN L n L.length = j + 1) := Lib.hid (by rw [HP.out, pkN_stop (by omega)])
      have Hp : Hid (putN L n = L) := Lib.hid (putN_old Hs.out he)
      have hw2 : (((j + 1 : Nat) : Int) - 1) = (j : Int) := by omega
      have hkz : (0 : Int) < ((j + 1 : Nat) : Int) := by omega
      rw [he] at hck
      have hq : ¬ (n : Int) < (n : Int) := by omega
      clear he
      go_wp2_with fail
      go_ret
      exact ⟨_, rfl, Or.inl ⟨rfl, Hp.out⟩, hE⟩
    · have hlj : j < L.length := by omega
      have hck := Hcell.out j w hlj hE
      have Hs : Hid (pkN L n L.length = j + 1) := Lib.hid (by rw [HP.out, hkj, pkN_stop (by omega)])
      have Hp : Hid (putN L n = putAt L n k) := Lib.hid (by rw [hkj]; exact putN_new Hs.out (by omega))
      obtain ⟨Y, hY⟩ : ∃ Y, Y = nthN L j := ⟨_, rfl⟩
      rw [← hY] at hck hlt
      have hw2 : ((k : Int) - 1) = (j : Int) := by omega
      have hkz : (0 : Int) < (k : Int) := by omega
      have hq : ¬ (n : Int) < (Y : Int) := by omega
      have hq2 : ((Y : Int) == (n : Int)) = false := by rw [beq_eq_false_iff_ne]; omega
      have hixj := hixL j
      have Hs' := Hs
      clear hY hkj Hs Hs'
      have hsl := fun W => run_cut (P := Tryz.prog) elI szI ao L.length c (k : Int) (by omega) (by omega) W
      have hsa := fun W => run_cutAt (P := Tryz.prog) elI szI ao L.length c (k : Int) (by omega) (by omega) W
      have hfl := fun W => run_cutFrom (P := Tryz.prog) elI szI ao L.length c (k : Int) (by omega) (by omega) W
      have hfa := fun W => run_cutFromAt (P := Tryz.prog) elI szI ao L.length c (k : Int) (by omega) (by omega) W
      rw [show ((k : Int)).toNat = k by omega] at hsl hsa hfl hfa
      have hcl : (castL L).length = L.length := castL_len L
      have Hpq : Hid (castL (putN L n) = (castL L).take k ++ [(n : Int)] ++ (castL L).drop k) := Lib.hid (by rw [Hp.out, castL_put])
      have HA := Lib.hid (fun W (hW : Ext w W) => (HI.out W hW).take (k := k) (by omega))
      have HB := Lib.hid (fun W (hW : Ext w W) => (HI.out W hW).drop (k := k) (by omega))
      have hln1 : ((castL L).take k).length + [(n : Int)].length ≤ 17592186044416 := by rw [List.length_take, List.length_singleton]; omega
      have hln2 : ((castL L).take k ++ [(n : Int)]).length + ((castL L).drop k).length ≤ 17592186044416 := by rw [List.length_append, List.length_take, List.length_singleton, List.length_drop]; omega
      obtain ⟨A, hA⟩ : ∃ A, A = (castL L).take k := ⟨_, rfl⟩
      obtain ⟨B, hB⟩ : ∃ B, B = (castL L).drop k := ⟨_, rfl⟩
      rw [← hA] at HA hln1 hln2 Hpq
      rw [← hB] at HB hln2 Hpq
      clear hA hB hcl
      go_wp2_with fail
      first | (go_region_held3 (fun W => Ext w W) (exact (by repeat (first | assumption | exact Ext.refl _ | (apply And.left; assumption) | apply Ext.drew | apply Ext.alloc))) (first | ((refine step_appendsE slI rfl _ _ rfl w w ?_ ?_ (A ++ [(n : Int)]) (B) ?_ ?_ ?_ hln2 ?_ ?_ ?_); (rotate_left 2); (focus (first | (with_reducible assumption) | ((refine OwnE.ext (w := ?_) ?_ ?_); (rotate_left 1); (focus (with_reducible assumption)); repeat (first | assumption | exact Ext.refl _ | (apply And.left; assumption) | apply Ext.drew | apply Ext.alloc)))); (rotate_left 2); rfl; rfl; (rotate_left 1); (focus (exact HB.out _ (by repeat (first | assumption | exact Ext.refl _ | (apply And.left; assumption) | apply Ext.drew | apply Ext.alloc)))); (focus (repeat (first | assumption | exact Ext.refl _ | (apply And.left; assumption) | apply Ext.drew | apply Ext.alloc))); (intro vF wF hOF hXF hTF)) | ((refine step_appendsE slI rfl _ _ rfl w w ?_ ?_ (A) ([(n : Int)]) ?_ ?_ ?_ hln1 ?_ ?_ ?_); (rotate_left 2); (focus (first | (with_reducible assumption) | ((refine OwnE.ext (w := ?_) ?_ ?_); (rotate_left 1); (focus (with_reducible assumption)); repeat (first | assumption | exact Ext.refl _ | (apply And.left; assumption) | apply Ext.drew | apply Ext.alloc)))); (rotate_left 2); rfl; rfl; (rotate_left 1); (focus (refine Blk.ints1 (T := 3) ?_; (repeat (first | (with_reducible assumption) | (with_reducible exact Blk.new _ _ _) | ((with_reducible refine Blk.new' ?_); simp [go_sem]; done) | (with_reducible apply Blk.alloc) | (with_reducible apply Blk.drew) | (with_reducible refine Blk.ext ?_ hEC))))); (focus (repeat (first | assumption | exact Ext.refl _ | (apply And.left; assumption) | apply Ext.drew | apply Ext.alloc))); (intro vD wD hOD hXD hTD)) | ((refine step_copy2 slI rfl _ _ rfl ?_ ?_ (A) ?_ ?_ ?_ ?_ w ?_ ?_ ?_); (rotate_left 2); rfl; rfl; (focus (repeat (first | (with_reducible assumption) | (with_reducible exact Blk.new _ _ _) | ((with_reducible refine Blk.new' ?_); simp [go_sem]; done) | (with_reducible apply Blk.alloc) | (with_reducible apply Blk.drew)))); (exact HA.out _ (by repeat (first | assumption | exact Ext.refl _ | (apply And.left; assumption) | apply Ext.drew | apply Ext.alloc))); (focus (first | exact Nat.le_refl _ | omega | (simp; omega))); (focus (repeat (first | assumption | exact Ext.refl _ | (apply And.left; assumption) | apply Ext.drew | apply Ext.alloc))); (intro aoC cC wC hOC hZC hEC; have hXC := Ext.trans (a := w) (by repeat (first | assumption | exact Ext.refl _ | (apply And.left; assumption) | apply Ext.drew | apply Ext.alloc)) hEC; have hOEC : OwnE 3 w w wC _ _ := Or.inr hOC)))) | (fail "the region")
      all_goals
        obtain ⟨aoN, cN, rfl, hON, hEN⟩ := MiP.of hOF hXF
        go_wp2_with fail
        go_ret
        exact ⟨_, rfl, Or.inr (by rw [Hpq.out]; exact hON), hEN⟩
theorem l5Put_any (u : Value) (L : List Nat) (n : Nat) (w : World) (h : Ints w u (castL L)) (hL : L.length ≤ 100000) :
    Calls Tryz.prog 146 #[u, .int .i64 n] w fun e w' => ∃ v', e = .returned v' ∧ Ints w' v' (castL (putN L n)) ∧ Ext w w' :=
  (l5Put_two u L n w h hL).mono fun e w' ⟨v', he, h1, hE⟩ => ⟨v', he, by
    rcases h1 with ⟨rfl, h2⟩ | h1
    · rw [h2]; exact h.ext hE
    · exact h1.ints, hE⟩
theorem l5Put_own (u : Value) (L : List Nat) (n : Nat) (w0 w : World) (h : Own 3 w0 w u (castL L)) (hs : w0.heap.size ≤ w.heap.size) (hL : L.length ≤ 100000) :
    Calls Tryz.prog 146 #[u, .int .i64 n] w fun e w' => ∃ v', e = .returned v' ∧ Own 3 w0 w' v' (castL (putN L n)) ∧ Ext w w' :=
  (l5Put_two u L n w h.ints hL).mono fun e w' ⟨v', he, h1, hE⟩ => ⟨v', he, by
    rcases h1 with ⟨rfl, h2⟩ | h1
    · rw [h2]; exact h.ext hE
    · exact ⟨ownsRow_mono h1.1 hs, h1.2⟩, hE⟩
theorem Ints.shapeN {w : World} {v : Value} {L : List Nat} (h : Ints w v (castL L)) : ∃ ao c, v = .slice ao L.length c := by
  obtain ⟨ao, c, rfl, -⟩ := h
  exact ⟨ao, c, by rw [castL_len]⟩
/-- the number of tiles, at most 200 -/
def tlN (l : List Int) (a : Int) : Nat := if isOneB l a then (tileL l a.toNat 200).length else 0
theorem tlN_no {l : List Int} {a : Int} (h : isOneB l a = false) : tlN l a = 0 := by unfold tlN; rw [h]; rfl
theorem tlN_yes {l : List Int} {n : Nat} (h : isOneB l n = true) : tlN l n = (tileL l n 200).length := by unfold tlN; rw [if_pos h]; rfl
end Go.Zz

/- The lengths of factorizations: LengthsOf of the reference. -/
namespace Go.Zz
open Go.RowKit Go.Proofs
set_option maxHeartbeats 1000000
set_option maxRecDepth 8000

theorem asc_len (n : Nat) : ∀ (L : List Nat) (m : Nat), L.Pairwise (· < ·) → (∀ x ∈ L, m ≤ x ∧ x < n) → L.length ≤ n - m
  | [], _, _, _ => by simp
  | a :: L, m, h, k => by
    rw [List.pairwise_cons] at h
    have ha := k a (by simp)
    have := asc_len n L (a + 1) h.2 (fun x hx => ⟨h.1 x hx, (k x (by simp [hx])).2⟩)
    rw [List.length_cons]; omega
theorem facV_vals {l R : List Int} : ∀ x ∈ facV l R, x ≤ 10 := fun x hx => by
  unfold facV at hx
  cases hf : facB l R
  · rw [hf] at hx; simp at hx
  · rw [hf] at hx
    unfold facB at hf
    rw [Bool.and_eq_true, Bool.and_eq_true, decide_eq_true_iff] at hf
    obtain ⟨hgr, h7⟩ : isGrp l = true ∧ ord l ≤ 7 := by have := hf.1; unfold atB at this; simpa using this
    exact Nat.le_trans (facF_vals (atS l) (fun a ha => (atL_good hgr h7 (atS_mem ha)).1) _ _ _ x hx) hf.2.2
theorem facV_len {l R : List Int} : (facV l R).length ≤ 254803968 := by
  unfold facV
  cases hf : facB l R
  · simp
  · unfold facB at hf
    rw [Bool.and_eq_true, Bool.and_eq_true, decide_eq_true_iff] at hf
    obtain ⟨hgr, h7⟩ : isGrp l = true ∧ ord l ≤ 7 := by have := hf.1; unfold atB at this; simpa using this
    exact fac_bd hgr h7 _ _ hf.2.2
theorem putTo_short {T : List Nat} (h : ∀ x ∈ T, x ≤ 10) {k : Nat} (hk : k ≤ T.length) : (putTo T k).length ≤ 11 := by
  have hp := putTo_spec T k hk
  have := asc_len 11 (putTo T k) 0 hp.1 (fun x hx => ⟨Nat.zero_le _, by have := h x (List.mem_of_mem_take ((hp.2 x).1 hx)); omega⟩)
  omega
theorem sLengthsOf_any (v u : Value) (l R : List Int) (w : World) (h : Ints w v l) (hu : Ints w u R) :
    Calls Tryz.prog 60 #[.agg #[v], u] w fun e w' => (∃ v', e = .returned v' ∧ Own 3 w w' v' (castL (lensL (facV l R)))) ∧ Ext w w' := by
  obtain ⟨wb, hwb⟩ : ∃ wb, wb = w.alloc (.cells #[v] 27) := ⟨_, rfl⟩
  have hE0 := (Ext.refl w).alloc (.cells #[v] 27)
  have hb := box_cell w v 27
  rw [← hwb] at hE0 hb
  have hg : ∀ W, Ext wb W → Ints W v l := fun W hW => h.ext (hE0.trans hW)
  have hE := Ext.refl wb
  have Hsz : Hid (w.heap.size + 1 = wb.heap.size) := Lib.hid (by rw [hwb]; simp [go_sem])
  have Hwb := Lib.hid hwb
  clear hwb h
  have hu2 : ∀ W, Ext wb W → Ints W u R := fun W hW => hu.ext (hE0.trans hW)
  have hO0 : Own 3 wb (wb.alloc (.cells #[] 3)) (.slice (some ⟨wb.heap.size, 0, none⟩) 0 0) [] := own_made (by omega) hE [] rfl
  have hE1 := hE.alloc (.cells #[] 3)
  have hb1 := hb _ hE1
  have cF := fun W (hW : Ext wb W) => sFactorizationsOf_any v u l R W (hg W hW) (hu2 W hW)
  have hF1 := facV_len (l := l) (R := R)
  have hF2 := facV_vals (l := l) (R := R)
  obtain ⟨F, hFd⟩ : ∃ F, F = facV l R := ⟨_, rfl⟩
  have hbt : Hid (0 < F.length → facB l R = true) := Lib.hid (fun hp => by
    cases hf : facB l R
    · rw [hFd, facV_no hf] at hp; simp at hp
    · rfl)
  rw [← hFd] at hF1 hF2 ⊢
  simp only [← hFd] at cF
  obtain ⟨b, hbd⟩ : ∃ b, b = facB l R := ⟨_, rfl⟩
  simp only [← hbd] at cF hbt
  have HP := Lib.hid (fun k => putTo_short hF2 (k := k))
  clear hFd hbd hF2
  go_enter Tryz.func60, Tryz.ntmps60
  go_wp2_with fail
  rw [← Hwb.out]; rw [Hsz.out]
  go_wp2_with (go_at_call 145; refine (cF _ hE1).mono ?_; rintro e w1 ⟨⟨v1, rfl, hF⟩, hE2⟩; obtain ⟨aoF, cF2, rfl, -⟩ := hF.shape)
  have hO1 := hO0.ext hE2
  have hE3 := hE1.trans hE2
  clear hO0
  go_loopw [5, 8] (fun so sj wr => ∃ j : Nat, j ≤ F.length ∧ sj = .int .i64 j ∧ Own 3 wb wr so (castL (putTo F j)) ∧ Ext w1 wr) (fun _ sj _ => F.length - (intOf sj).toNat)
  case atStart => exact ⟨0, by omega, rfl, hO1, Ext.refl _⟩
  case round =>
    clear hO1
    obtain ⟨j, hj, rfl, hO, hEr⟩ := hrel
    obtain ⟨aoO, cO, rfl, -⟩ := hO.shape
    by_cases hlt : j < F.length
    · have hltI : (j : Int) < (F.length : Int) := by omega
      have hbT := hbt.out (by omega)
      subst hbT
      obtain ⟨ao3, c3, hv3, -, hc3⟩ := (hF.ext hEr).shape
      simp only [Value.slice.injEq] at hv3
      obtain ⟨rfl, -, rfl⟩ := hv3
      obtain ⟨gF, uF, rfl, hcu, hRu⟩ := hc3 j hlt
      have hixF := rowV_ix elW szW gF F.length cF2
      obtain ⟨d, hd⟩ : ∃ d, d = F.getD j 0 := ⟨_, rfl⟩
      rw [← hd] at hRu
      obtain ⟨aoU, cU, rfl⟩ := hRu.shape
      have Hs : Hid (putTo F (j + 1) = putN (putTo F j) d) := Lib.hid (by rw [hd]; rfl)
      have cP := l5Put_own _ (putTo F j) d wb wr hO (by have := hE3.size; have := hEr.size; omega) (by have := HP.out j hj; omega)
      clear hd hc3 hRu
      go_wp2_with (go_at_call 146; refine cP.mono ?_; rintro e w2 ⟨v2, rfl, hO2, hE4⟩)
      go_roundw
      case rel => exact ⟨j + 1, by omega, by go_num, by rw [Hs.out]; exact hO2, hEr.trans hE4⟩
      case measure => (simp [intOf]; omega)
    · have hltI : ¬ (j : Int) < (F.length : Int) := by omega
      have hjl : j = F.length := by omega
      have Hl : Hid (lensL F = putTo F j) := Lib.hid (by rw [hjl]; rfl)
      clear hjl
      go_wp2_with fail
      go_ret
      exact ⟨⟨_, rfl, by rw [Hl.out]; exact hO.mono hE0⟩, hE0.trans (hE3.trans hEr)⟩
end Go.Zz

/- Sets out of lists, images, maps that keep sums: the program. -/
namespace Go.Zz
open Go.RowKit Go.Proofs
set_option maxHeartbeats 1000000
set_option maxRecDepth 4000

theorem SetOf_any (v : Value) (l : List Int) (vX : Value) (X : List Int) (w : World) (h : Ints w v l) (hX : Ints w vX X) :
    Calls Tryz.prog 92 #[.agg #[v], vX] w fun e w' => e = .returned (.tuple #[.int .i64 (soV l X), .bool (soB l X)]) ∧ Ext w w' := by
  obtain ⟨wb, hwb⟩ : ∃ wb, wb = w.alloc (.cells #[v] 27) := ⟨_, rfl⟩
  have hE0 := (Ext.refl w).alloc (.cells #[v] 27)
  have hb := box_cell w v 27
  rw [← hwb] at hE0 hb
  have hg : ∀ W, Ext wb W → Ints W v l := fun W hW => h.ext (hE0.trans hW)
  have hE := Ext.refl wb
  have Hsz : Hid (w.heap.size + 1 = wb.heap.size) := Lib.hid (by rw [hwb]; simp [go_sem])
  have Hwb := Lib.hid hwb
  clear hwb h
  obtain ⟨ao, c, adr, rfl, hlen, hadr, hcell⟩ := hX.op
  have hix := ints_index (c := c) elI szI hadr
  clear hadr hX
  go_enter Tryz.func92, Tryz.ntmps92
  go_wp2_with fail
  rw [← Hwb.out]
  go_loopw [6, 11] (fun av iv wr => ∃ (k a : Nat), k ≤ X.length ∧ iv = .int .i64 k ∧ av = .int .i64 a ∧ a < 2 ^ 24 ∧ Ext wb wr ∧ Hid (soG l X 0 = soG l (X.drop k) a)) (fun _ iv _ => X.length - (intOf iv).toNat)
  case atStart => exact ⟨0, 0, by omega, rfl, rfl, by decide, hE, Lib.hid rfl⟩
  case round =>
    clear hE
    obtain ⟨k, a, hk, rfl, rfl, ha, hE, H⟩ := hrel
    have kb := hb _ hE
    by_cases hlt : k < X.length
    · have hd := drop_nth X k hlt
      have hck := hcell k wr hlt (hE0.trans hE)
      cases hh : hasB l (nth X k)
      · have Hn : Hid (soB l X = false ∧ soV l X = 0) := Lib.hid (soG_no (by rw [H.out, hd, soG_hno hh]))
        have cI := has_any v l (nth X k) wr (hg _ hE)
        rw [hh] at cI
        clear hd hh
        go_wp2_with (go_at_call 148; refine cI.mono ?_; rintro e w1 ⟨rfl, hE1⟩)
        exact bodyPost_ret (v := .tuple #[.int .i64 0, .bool false]) (by simp [results, Tryz.results92, go_sem]) rfl ⟨by rw [Hn.out.1, Hn.out.2], hE0.trans (hE.trans hE1)⟩
      · have cI := has_any v l (nth X k) wr (hg _ hE)
        rw [hh] at cI
        obtain ⟨n, hn, hno, hgr⟩ := hasB_nat hh
        have hob := ord_bd hgr
        rw [hn] at hd hh cI hck
        have Hx := Lib.hid hn
        have hs1 := ishl_one (n := n) (by omega)
        have hor := ior_pw (o := a) (z := n) ha (by omega)
        cases ht : a.testBit n
        · have hin := in_val a n ha (by omega) (b := false)
          have Hn : Hid (soG l X 0 = soG l (X.drop (k + 1)) (a ||| 2 ^ n)) := Lib.hid (by rw [H.out, hd, soG_go hh ht])
          have hab : a ||| 2 ^ n < 2 ^ 24 := Nat.or_lt_two_pow ha (Nat.pow_lt_pow_right (by omega) (by omega))
          have ci := fun W => hin W ht
          clear hd hh ht hgr hn hin
          have hcx : ∀ W, Ext wr W → W.cell? (adr k) = some (.int .i64 (n : Int)) := fun W hW => hW.cell hck
          go_wp2_with (first | (go_at_call 148; refine cI.mono ?_; rintro e w1 ⟨rfl, hE1⟩) | (go_at_call 163; refine (ci _).mono ?_; rintro e w' ⟨rfl, rfl⟩))
          go_roundw
          case rel => exact ⟨k + 1, a ||| 2 ^ n, by omega, by go_num, rfl, hab, hE.trans hE1, Hn⟩
          case measure => (simp [intOf]; omega)
        · have hin := in_val a n ha (by omega) (b := true)
          have Hn : Hid (soB l X = false ∧ soV l X = 0) := Lib.hid (soG_no (by rw [H.out, hd, soG_bno ht]))
          have ci := fun W => hin W ht
          clear hd hh ht hgr hn hin
          go_wp2_with (first | (go_at_call 148; refine cI.mono ?_; rintro e w1 ⟨rfl, hE1⟩) | (go_at_call 163; refine (ci _).mono ?_; rintro e w' ⟨rfl, rfl⟩))
          exact bodyPost_ret (v := .tuple #[.int .i64 0, .bool false]) (by simp [results, Tryz.results92, go_sem]) rfl ⟨by rw [Hn.out.1, Hn.out.2], hE0.trans (hE.trans hE1)⟩
    · have hkl : k = X.length := by omega
      have Hn : Hid (soB l X = isGrp l ∧ soV l X = (a : Int)) := Lib.hid (soG_yes (by rw [H.out, hkl, List.drop_length]; rfl))
      clear hkl
      have cG := IsGroup_any v l wr (hg _ hE)
      go_wp2_with (refine cG.mono ?_; rintro e w1 ⟨rfl, hE1⟩)
      exact bodyPost_ret (v := .tuple #[.int .i64 a, .bool (isGrp l)]) (by simp [results, Tryz.results92, go_sem]) rfl ⟨by rw [Hn.out.1, Hn.out.2], hE0.trans (hE.trans hE1)⟩
theorem ImageOfMap_any (v : Value) (l : List Int) (vX : Value) (X : List Int) (w : World) (h : Ints w v l) (hX : Ints w vX X) :
    Calls Tryz.prog 206 #[.agg #[v], vX] w fun e w' => ∃ z : Int, e = .returned (.tuple #[.int .i64 z, .bool (X.all (hasB l) && isGrp l)]) ∧ Ext w w' := by
  obtain ⟨wb, hwb⟩ : ∃ wb, wb = w.alloc (.cells #[v] 27) := ⟨_, rfl⟩
  have hE0 := (Ext.refl w).alloc (.cells #[v] 27)
  have hb := box_cell w v 27
  rw [← hwb] at hE0 hb
  have hg : ∀ W, Ext wb W → Ints W v l := fun W hW => h.ext (hE0.trans hW)
  have hE := Ext.refl wb
  have Hsz : Hid (w.heap.size + 1 = wb.heap.size) := Lib.hid (by rw [hwb]; simp [go_sem])
  have Hwb := Lib.hid hwb
  clear hwb h
  obtain ⟨ao, c, adr, rfl, hlen, hadr, hcell⟩ := hX.op
  have hix := ints_index (c := c) elI szI hadr
  clear hadr hX
  go_enter Tryz.func206, Tryz.ntmps206
  go_wp2_with fail
  rw [← Hwb.out]
  go_loopw [6, 11] (fun av iv wr => ∃ (k a : Nat), k ≤ X.length ∧ iv = .int .i64 k ∧ av = .int .i64 a ∧ a < 2 ^ 24 ∧ Ext wb wr ∧ Hid (∀ j, j < k → hasB l (nth X j) = true)) (fun _ iv _ => X.length - (intOf iv).toNat)
  case atStart => exact ⟨0, 0, by omega, rfl, rfl, by decide, hE, Lib.hid (by omega)⟩
  case round =>
    clear hE
    obtain ⟨k, a, hk, rfl, rfl, ha, hE, H⟩ := hrel
    have kb := hb _ hE
    by_cases hlt : k < X.length
    · have hck := hcell k wr hlt (hE0.trans hE)
      have cI := has_any v l (nth X k) wr (hg _ hE)
      cases hh : hasB l (nth X k)
      · have Hn : Hid ((X.all (hasB l) && isGrp l) = false) := Lib.hid (by
          have : X.all (hasB l) = false := by
            rw [List.all_eq_false]; exact ⟨_, nth_mem hlt, by rw [hh]; simp⟩
          rw [this]; rfl)
        rw [hh] at cI
        clear hh
        go_wp2_with (go_at_call 148; refine cI.mono ?_; rintro e w1 ⟨rfl, hE1⟩)
        exact bodyPost_ret (v := .tuple #[.int .i64 0, .bool false]) (by simp [results, Tryz.results206, go_sem]) rfl ⟨0, by rw [Hn.out], hE0.trans (hE.trans hE1)⟩
      · rw [hh] at cI
        have Hh := Lib.hid hh
        obtain ⟨n, hn, hno, hgr⟩ := hasB_nat hh
        have hob := ord_bd hgr
        rw [hn] at cI hck
        have hs1 := ishl_one (n := n) (by omega)
        have hor := ior_pw (o := a) (z := n) ha (by omega)
        have hab : a ||| 2 ^ n < 2 ^ 24 := Nat.or_lt_two_pow ha (Nat.pow_lt_pow_right (by omega) (by omega))
        have Hx := Lib.hid hn
        have Hc := Lib.hid hcell
        clear hh hgr hn hcell
        go_wp2_with (go_at_call 148; refine cI.mono ?_; rintro e w1 ⟨rfl, hE1⟩)
        go_roundw
        case rel => exact ⟨k + 1, a ||| 2 ^ n, by omega, by go_num, rfl, hab, hE.trans hE1, Lib.hid fun j hj => by by_cases e : j = k; (subst e; exact Hh.out); exact H.out j (by omega)⟩
        case measure => (simp [intOf]; omega)
    · have hkl : k = X.length := by omega
      have Hn : Hid ((X.all (hasB l) && isGrp l) = isGrp l) := Lib.hid (by
        have : X.all (hasB l) = true := List.all_eq_true.2 fun x hx => by
          obtain ⟨j, hj, rfl⟩ := mem_nth hx; exact H.out j (by omega)
        rw [this]; rfl)
      clear hkl
      have cG := IsGroup_any v l wr (hg _ hE)
      go_wp2_with (refine cG.mono ?_; rintro e w1 ⟨rfl, hE1⟩)
      exact bodyPost_ret (v := .tuple #[.int .i64 a, .bool (isGrp l)]) (by simp [results, Tryz.results206, go_sem]) rfl ⟨a, by rw [Hn.out], hE0.trans (hE.trans hE1)⟩
theorem IsFreimanMap_any (v u : Value) (g h : List Int) (vX vY : Value) (X Y : List Int) (w : World) (hv : Ints w v g) (hu : Ints w u h) (hX : Ints w vX X) (hY : Ints w vY Y) :
    Calls Tryz.prog 170 #[.agg #[v], .agg #[u], vX, vY] w fun e w' => e = .returned (.bool (fmF g h X Y)) ∧ Ext w w' := by
  obtain ⟨wb, hwb⟩ : ∃ wb, wb = (w.alloc (.cells #[v] 27)).alloc (.cells #[u] 27) := ⟨_, rfl⟩
  have hE0 : Ext w wb := by rw [hwb]; exact ((Ext.refl _).alloc _).alloc _
  have B0 : Blk wb w.heap.size 27 #[v] := by rw [hwb]; exact (Blk.new _ _ _).alloc _
  have B1 : Blk wb (w.heap.size + 1) 27 #[u] := by rw [hwb]; simpa using Blk.new (w.alloc (.cells #[v] 27)) 27 #[u]
  have b0 : ∀ W, Ext wb W → W.cell? ⟨w.heap.size, 0, none⟩ = some v := fun W hW => (B0.ext hW).cell (i := 0) rfl
  have b1 : ∀ W, Ext wb W → W.cell? ⟨w.heap.size + 1, 0, none⟩ = some u := fun W hW => (B1.ext hW).cell (i := 0) rfl
  have HV := Lib.hid (fun W (hW : Ext wb W) => hv.ext (hE0.trans hW))
  have HU := Lib.hid (fun W (hW : Ext wb W) => hu.ext (hE0.trans hW))
  have hE := Ext.refl wb
  have Hwb := Lib.hid hwb
  clear hv hu hwb B0 B1
  have HX := Lib.hid (fun W (hW : Ext wb W) => hX.ext (hE0.trans hW))
  have HY := Lib.hid (fun W (hW : Ext wb W) => hY.ext (hE0.trans hW))
  obtain ⟨aoX, cX, -, rfl, -, -, -⟩ := hX.op
  obtain ⟨aoY, cY, -, rfl, -, -, -⟩ := hY.op
  clear hX hY
  have cS := fun W (hW : Ext wb W) => SetOf_any v g _ X W (HV.out W hW) (HX.out W hW)
  have cI := fun W (hW : Ext wb W) => ImageOfMap_any u h _ Y W (HU.out W hW) (HY.out W hW)
  have cN := fun W => within_any ((X.length : Nat) : Int) 1 6 W
  have hin : inB ((X.length : Nat) : Int) 1 6 = decide (1 ≤ X.length ∧ X.length ≤ 6) := by
    rw [Bool.eq_iff_iff, inB_t, decide_eq_true_iff]; omega
  rw [hin] at cN
  have heq : (((Y.length : Nat) : Int) != ((X.length : Nat) : Int)) = !decide (X.length = Y.length) := by
    rw [Bool.eq_iff_iff]; simp; omega
  clear hin
  have Hf : Hid (fineF g h X Y = (soB g X && decide (1 ≤ X.length ∧ X.length ≤ 6) && decide (X.length = Y.length) && (Y.all (hasB h) && isGrp h))) := Lib.hid (by
    unfold fineF
    cases soB g X <;> cases isGrp h <;> cases Y.all (hasB h) <;> cases decide (X.length = Y.length) <;> cases decide (1 ≤ X.length ∧ X.length ≤ 6) <;> rfl)
  cases hf : fineF g h X Y
  · have Hn : Hid (fmF g h X Y = false) := Lib.hid (by unfold fmF; rw [hf]; rfl)
    rw [hf] at Hf
    clear hf
    obtain ⟨d1, hd1⟩ : ∃ d, d = soB g X := ⟨_, rfl⟩
    obtain ⟨d2, hd2⟩ : ∃ d, d = (Y.all (hasB h) && isGrp h) := ⟨_, rfl⟩
    obtain ⟨d3, hd3⟩ : ∃ d, d = decide (X.length = Y.length) := ⟨_, rfl⟩
    obtain ⟨d4, hd4⟩ : ∃ d, d = decide (1 ≤ X.length ∧ X.length ≤ 6) := ⟨_, rfl⟩
    rw [← hd1, ← hd2, ← hd3, ← hd4] at Hf
    rw [← hd1] at cS
    rw [← hd2] at cI
    rw [← hd3] at heq
    rw [← hd4] at cN
    clear hd1 hd2 hd3 hd4
    have Hf2 := Hf.out
    cases d1
    · clear Hf2 Hf
      go_enter Tryz.func170, Tryz.ntmps170
      go_wp2_with fail
      rw [← Hwb.out]
      refine (cS _ hE).mono ?_
      rintro e w1 ⟨rfl, hE1⟩
      go_wp2_with fail
      go_ret
      exact ⟨ret_bool Hn.out.symm, hE0.trans hE1⟩
    cases d4
    · clear Hf2 Hf
      go_enter Tryz.func170, Tryz.ntmps170
      go_wp2_with fail
      rw [← Hwb.out]
      refine (cS _ hE).mono ?_
      rintro e w1 ⟨rfl, hE1⟩
      go_wp2_with (go_at_call 138; refine (cN _).mono ?_; rintro e w' ⟨rfl, rfl⟩)
      go_ret
      exact ⟨ret_bool Hn.out.symm, hE0.trans hE1⟩
    cases d3
    · clear Hf2 Hf
      go_enter Tryz.func170, Tryz.ntmps170
      go_wp2_with fail
      rw [← Hwb.out]
      refine (cS _ hE).mono ?_
      rintro e w1 ⟨rfl, hE1⟩
      go_wp2_with (go_at_call 138; refine (cN _).mono ?_; rintro e w' ⟨rfl, rfl⟩)
      go_ret
      exact ⟨ret_bool Hn.out.symm, hE0.trans hE1⟩
    cases d2
    · clear Hf2 Hf
      go_enter Tryz.func170, Tryz.ntmps170
      go_wp2_with fail
      rw [← Hwb.out]
      refine (cS _ hE).mono ?_
      rintro e w1 ⟨rfl, hE1⟩
      have k1 := b1 _ hE1
      go_wp2_with (go_at_call 138; refine (cN _).mono ?_; rintro e w' ⟨rfl, rfl⟩)
      refine (cI _ hE1).mono ?_
      rintro e w2 ⟨z, rfl, hE2⟩
      go_wp2_with fail
      go_ret
      exact ⟨ret_bool Hn.out.symm, hE0.trans (hE1.trans hE2)⟩
    · simp at Hf2
  · have Hn : Hid (fmF g h X Y = kpB g h (natL X) (natL Y)) := Lib.hid (by unfold fmF; rw [hf]; rfl)
    have Hf2 := Hf.out
    rw [hf] at Hf2
    have Hf3 := Hf2.symm
    simp only [Bool.and_eq_true] at Hf3
    obtain ⟨⟨⟨q1, q2⟩, q3⟩, q4, q5⟩ := Hf3
    rw [q1] at cS
    rw [q2] at cN
    rw [q3] at heq
    rw [q4, q5] at cI
    simp only [Bool.not_true, Bool.and_self] at heq cI
    obtain ⟨hg, hh, ⟨L, M, rfl, rfl, hL, hM⟩, hlm, hl6⟩ := fine_nat hf
    rw [castL_len, castL_len] at hlm
    rw [castL_len] at hl6
    rw [natL_cast, natL_cast] at Hn
    have cK := fun W (hW : Ext wb W) => keeps_any v u g h _ _ L M W (HV.out W hW) (HU.out W hW) (Lib.hid hg) (Lib.hid hh) (HX.out W hW) (HY.out W hW) hL hM (by omega) (by omega)
    clear hf hg hh hlm hL hM Hf2 q1 q2 q3 q4 q5 Hf
    go_enter Tryz.func170, Tryz.ntmps170
    go_wp2_with fail
    rw [← Hwb.out]
    refine (cS _ hE).mono ?_
    rintro e w1 ⟨rfl, hE1⟩
    have k1 := b1 _ hE1
    go_wp2_with (go_at_call 138; refine (cN _).mono ?_; rintro e w' ⟨rfl, rfl⟩)
    refine (cI _ hE1).mono ?_
    rintro e w2 ⟨z, rfl, hE2⟩
    have hE12 := hE1.trans hE2
    have k02 := b0 _ hE12
    have k12 := b1 _ hE12
    go_wp2_with fail
    refine (cK _ hE12).mono ?_
    rintro e w3 ⟨rfl, hE3⟩
    go_wp2_with fail
    go_ret
    exact ⟨ret_bool Hn.out.symm, hE0.trans (hE12.trans hE3)⟩
theorem IsFreimanIso_any (v u : Value) (g h : List Int) (vX vY : Value) (X Y : List Int) (w : World) (hv : Ints w v g) (hu : Ints w u h) (hX : Ints w vX X) (hY : Ints w vY Y) :
    Calls Tryz.prog 93 #[.agg #[v], .agg #[u], vX, vY] w fun e w' => e = .returned (.bool (isoF g h X Y)) ∧ Ext w w' := by
  obtain ⟨wb, hwb⟩ : ∃ wb, wb = (w.alloc (.cells #[v] 27)).alloc (.cells #[u] 27) := ⟨_, rfl⟩
  have hE0 : Ext w wb := by rw [hwb]; exact ((Ext.refl _).alloc _).alloc _
  have B0 : Blk wb w.heap.size 27 #[v] := by rw [hwb]; exact (Blk.new _ _ _).alloc _
  have B1 : Blk wb (w.heap.size + 1) 27 #[u] := by rw [hwb]; simpa using Blk.new (w.alloc (.cells #[v] 27)) 27 #[u]
  have b0 : ∀ W, Ext wb W → W.cell? ⟨w.heap.size, 0, none⟩ = some v := fun W hW => (B0.ext hW).cell (i := 0) rfl
  have b1 : ∀ W, Ext wb W → W.cell? ⟨w.heap.size + 1, 0, none⟩ = some u := fun W hW => (B1.ext hW).cell (i := 0) rfl
  have HV := Lib.hid (fun W (hW : Ext wb W) => hv.ext (hE0.trans hW))
  have HU := Lib.hid (fun W (hW : Ext wb W) => hu.ext (hE0.trans hW))
  have hE := Ext.refl wb
  have Hwb := Lib.hid hwb
  clear hv hu hwb B0 B1
  have HX := Lib.hid (fun W (hW : Ext wb W) => hX.ext (hE0.trans hW))
  have HY := Lib.hid (fun W (hW : Ext wb W) => hY.ext (hE0.trans hW))
  clear hX hY
  have cF := fun W (hW : Ext wb W) => IsFreimanMap_any v u g h vX vY X Y W (HV.out W hW) (HU.out W hW) (HX.out W hW) (HY.out W hW)
  have cG := fun W (hW : Ext wb W) => IsFreimanMap_any u v h g vY vX Y X W (HU.out W hW) (HV.out W hW) (HY.out W hW) (HX.out W hW)
  cases hf : fmF g h X Y
  · have Hn : Hid (isoF g h X Y = false) := Lib.hid (by unfold isoF; rw [hf]; rfl)
    rw [hf] at cF
    go_enter Tryz.func93, Tryz.ntmps93
    go_wp2_with fail
    rw [← Hwb.out]
    refine (cF _ hE).mono ?_
    rintro e w1 ⟨rfl, hE1⟩
    go_wp2_with fail
    go_ret
    exact ⟨ret_bool Hn.out.symm, hE0.trans hE1⟩
  · have Hn : Hid (isoF g h X Y = fmF h g Y X) := Lib.hid (by unfold isoF; rw [hf]; rfl)
    rw [hf] at cF
    go_enter Tryz.func93, Tryz.ntmps93
    go_wp2_with fail
    rw [← Hwb.out]
    refine (cF _ hE).mono ?_
    rintro e w1 ⟨rfl, hE1⟩
    have k0 := b0 _ hE1
    have k1 := b1 _ hE1
    go_wp2_with fail
    refine (cG _ hE1).mono ?_
    rintro e w2 ⟨rfl, hE2⟩
    go_wp2_with fail
    go_ret
    exact ⟨ret_bool Hn.out.symm, hE0.trans (hE1.trans hE2)⟩
end Go.Zz
