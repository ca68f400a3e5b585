/- Cosets of small doubling. -/
import Derived.Test.YtopokpamhojooaaGr5
import Derived.Test.YtopokpamhojooaaGr4
namespace Go.Zz
open Go.RowKit Go.Proofs
set_option maxHeartbeats 400000

def scD (l : List Int) (a : Int) : Int := if smallF l a then (sumF l a.toNat (oppF l a.toNat) : Int) else 0
def scS (l : List Int) (a : Int) : Int := if smallF l a then (sumF l a.toNat (sumF l a.toNat (oppF l a.toNat)) : Int) else 0
theorem sc_no {l : List Int} {a : Int} (h : smallF l a = false) : scD l a = 0 ∧ scS l a = 0 := by unfold scD scS; rw [h]; exact ⟨rfl, rfl⟩
theorem sc_yes {l : List Int} {n : Nat} (h : smallF l n = true) : scD l n = (sumF l n (oppF l n) : Int) ∧ scS l n = (sumF l n (sumF l n (oppF l n)) : Int) := by unfold scD scS; rw [h]; exact ⟨rfl, rfl⟩
theorem smallF_nat {l : List Int} {a : Int} (h : smallF l a = true) : ∃ n : Nat, a = n ∧ n < 2 ^ ord l ∧ n < 2 ^ 24 ∧ isGrp l = true ∧ isSetB l a = true := by
  unfold smallF at h
  have h1 := (Bool.and_eq_true_iff.1 (Bool.and_eq_true_iff.1 h).1).1
  obtain ⟨n, rfl, a, b, c⟩ := isSetB_nat h1
  exact ⟨n, rfl, a, b, c, h1⟩
--%call IsSmallV 92 ext IsSmallDoubling_val _ _ _ _ ({0}) ({1})
theorem IsSmallDoubling_val (v : Value) (l : List Int) (a : Int) (w : World) (h : Ints w v l) {b : Bool} (hb : smallF l a = b) :
    Calls Try.prog 92 #[.agg #[v], .int .i64 a] w fun e w' => e = .returned (.bool b) ∧ Ext w w' := by
  subst hb; exact IsSmallDoubling_any v l a w h
--%call sIsSmallV 77 ext sIsSmallDoubling_val _ _ _ _ ({0}) ({1})
theorem sIsSmallDoubling_val (v : Value) (l : List Int) (a : Int) (w : World) (h : Ints w v l) {b : Bool} (hb : smallF l a = b) :
    Calls Try.prog 77 #[.agg #[v], .int .i64 a] w fun e w' => e = .returned (.bool b) ∧ Ext w w' := by
  subst hb; exact sIsSmallDoubling_any v l a w h
--%call sDiff 78 ext sDifferenceOfSets_nat _ _ _ _ _ ({0}) ({1}) ({2})
theorem sDifferenceOfSets_nat (v : Value) (l : List Int) (a b : Nat) (w : World) (h : Ints w v l) (ha : isSetB l a = true) (hb' : isSetB l b = true) :
    Calls Try.prog 78 #[.agg #[v], .int .i64 a, .int .i64 b] w fun e w' => e = .returned (.int .i64 (sumF l a (oppF l b))) ∧ Ext w w' := by
  obtain ⟨wb, hwb⟩ : ∃ wb, wb = w.alloc (.cells #[v] 30) := ⟨_, rfl⟩
  have hE0 := (Ext.refl w).alloc (.cells #[v] 30)
  have hb := box_cell w v 30
  rw [← hwb] at hE0 hb
  have hg : ∀ W, Ext wb W → Ints W v l := fun W hW => h.ext (hE0.trans hW)
  have hE := Ext.refl wb
  have Hsz : Hid (w.heap.size + 1 = wb.heap.size) := Lib.hid (by rw [hwb]; simp [go_sem])
  have Hwb := Lib.hid hwb
  clear hwb h
  obtain ⟨a', e1, -, ha2, hgr⟩ := isSetB_nat ha
  obtain ⟨b', e2, -, hb2, -⟩ := isSetB_nat hb'
  obtain rfl : a = a' := by omega
  obtain rfl : b = b' := by omega
  have hbx := fun U => hb _ (lat_ext wb U)
  have hbx1 := hb wb hE
  have Hgr := Lib.hid hgr
  have ho := oppF_bd hgr b
  clear hgr e1 e2
  go_enter Try.func78, Try.ntmps78
  go_wp2_with fail
  rw [← Hwb.out]
  go_wp2_with (first | (go_at_call 107; (first | (with_reducible refine Calls.mono (sIsSet_val _ _ (a : Int) _ (hg _ hE) ha) ?_) | (with_reducible refine Calls.mono (sIsSet_val _ _ (b : Int) _ (hg _ hE) hb') ?_)); rintro e w' ⟨rfl, hE'⟩; replace hE := hE.trans hE'; clear hE'))
  (refine wp_region_lat (wb) (by kernel_rfl) (by kernel_rfl) hE ?_); (repeat (go_big_quiet_step (first | (go_at_call 136; exact Calls.lat (l3Negate_any _ _ _ _ (hg _ (lat_ext wb _)) (Hgr) (hb2))) | (go_at_call 67; exact Calls.lat (l4Sum_any _ _ _ _ _ (hg _ (lat_ext wb _)) (Hgr) (ha2) (ho)))))); (refine wpQuiet_nil ?_); (intro W hE'); (replace hE := lat_of hE'); (clear hE')
  go_wp2_with fail
  go_ret
  exact ⟨rfl, hE0.trans hE⟩
end Go.Zz

/- Claims of cosets. -/
namespace Go.Zz
open Go.RowKit Go.Proofs
set_option maxHeartbeats 2000000
set_option maxRecDepth 20000

theorem copyGroup_any (v : Value) (l : List Int) (w : World) (h : Ints w v l) :
    Calls Try.prog 45 #[.agg #[v]] w fun e w' => ∃ ao c, e = .returned (.agg #[.slice ao l.length c]) ∧ Own 3 w w' (.slice ao l.length c) l ∧ Ext w w' := by
  obtain ⟨wb, hwb⟩ : ∃ wb, wb = w.alloc (.cells #[v] 30) := ⟨_, rfl⟩
  have hE0 := (Ext.refl w).alloc (.cells #[v] 30)
  have hb := box_cell w v 30
  rw [← hwb] at hE0 hb
  have hg : ∀ W, Ext wb W → Ints W v l := fun W hW => h.ext (hE0.trans hW)
  have hE := Ext.refl wb
  have Hsz : Hid (w.heap.size + 1 = wb.heap.size) := Lib.hid (by rw [hwb]; simp [go_sem])
  have Hwb := Lib.hid hwb
  clear hwb h
  obtain ⟨wc, hwc⟩ : ∃ wc, wc = wb.alloc (.cells #[.slice none 0 0] 30) := ⟨_, rfl⟩
  have hBc : Blk wc wb.heap.size 30 #[.slice none 0 0] := by rw [hwc]; exact Blk.new _ _ _
  have hRc : Res wc wb.heap.size 1 := hBc.res (by simp)
  have hAc : Ext wb wc := by rw [hwc]; exact hE.alloc _
  replace hE := Ext.refl wc
  have Hsz2 : Hid (wb.heap.size + 1 = wc.heap.size) := Lib.hid (by rw [hwc]; simp [go_sem])
  have Hwc := Lib.hid hwc
  clear hwc hBc
  have hgc : ∀ W, Ext wc W → Ints W v l := fun W hW => hg W (hAc.trans hW)
  have hbc : ∀ W, Ext wc W → W.cell? ⟨w.heap.size, 0, none⟩ = some v := fun W hW => hb W (hAc.trans hW)
  go_enter Try.func45, Try.ntmps45
  go_wp2_with fail
  rw [← Hwb.out, ← Hwc.out]; rw [Hsz.out]
  refine (Calls.sh (copyInts_any _ _ _ (hgc _ hE))).mono ?_
  rintro e w1 ⟨ao, c, rfl, hO, hE1⟩
  have hr := hRc.ext hE1
  unfold Res at hr
  have hwc : wb.heap.size < wc.heap.size := by have := Hsz2.out; omega
  go_wp2_with fail
  exact bodyPost_ret (v := .agg #[.slice ao l.length c]) (by simp [results, Try.results45, go_sem, hr]) rfl ⟨_, _, rfl, (hO.setCell_below hwc _).mono (hE0.trans hAc), hE0.trans (Ext.setCell (hAc.trans hE1) (Nat.le_refl _) _)⟩
theorem l33Group_any (v : Value) (l : List Int) (w : World) (h : Ints w v l) :
    Calls Try.prog 42 #[.agg #[v]] w fun e w' => ∃ ao c, e = .returned (.agg #[.slice ao l.length c]) ∧ Own 3 w w' (.slice ao l.length c) l ∧ Ext w w' := by
  obtain ⟨wb, hwb⟩ : ∃ wb, wb = w.alloc (.cells #[v] 30) := ⟨_, rfl⟩
  have hE0 := (Ext.refl w).alloc (.cells #[v] 30)
  have hb := box_cell w v 30
  rw [← hwb] at hE0 hb
  have hg : ∀ W, Ext wb W → Ints W v l := fun W hW => h.ext (hE0.trans hW)
  have hE := Ext.refl wb
  have Hsz : Hid (w.heap.size + 1 = wb.heap.size) := Lib.hid (by rw [hwb]; simp [go_sem])
  have Hwb := Lib.hid hwb
  clear hwb h
  obtain ⟨wc, hwc⟩ : ∃ wc, wc = wb.alloc (.cells #[.slice none 0 0] 30) := ⟨_, rfl⟩
  have hBc : Blk wc wb.heap.size 30 #[.slice none 0 0] := by rw [hwc]; exact Blk.new _ _ _
  have hRc : Res wc wb.heap.size 1 := hBc.res (by simp)
  have hAc : Ext wb wc := by rw [hwc]; exact hE.alloc _
  replace hE := Ext.refl wc
  have Hsz2 : Hid (wb.heap.size + 1 = wc.heap.size) := Lib.hid (by rw [hwc]; simp [go_sem])
  have Hwc := Lib.hid hwc
  clear hwc hBc
  have hgc : ∀ W, Ext wc W → Ints W v l := fun W hW => hg W (hAc.trans hW)
  have hbc : ∀ W, Ext wc W → W.cell? ⟨w.heap.size, 0, none⟩ = some v := fun W hW => hb W (hAc.trans hW)
  have hO : Own 3 wc (wc.alloc (.cells #[] 3)) (.slice (some ⟨wc.heap.size, 0, none⟩) 0 0) [] := own_made (TI := 3) (n := 0) (by omega) (Ext.refl wc) [] rfl
  have hEl := (Ext.refl wc).alloc (.cells #[] 3)
  have hI := hgc _ hEl
  have kb := hbc _ hEl
  have hlen : l.length ≤ 17592186044416 := by obtain ⟨_, _, _, _, h', _⟩ := hgc _ hE; exact h'
  have hwc : wb.heap.size < wc.heap.size := by have := Hsz2.out; omega
  have ez : wc.heap.size = w.heap.size + 1 + 1 := by have := Hsz.out; have := Hsz2.out; omega
  rw [ez] at hO
  have hw : wc = (w.alloc (.cells #[v] 30)).alloc (.cells #[.slice none 0 0] 30) := by rw [Hwc.out, Hwb.out]
  have Hw := Lib.hid hw
  rw [hw] at hO hI hEl kb
  clear hw ez
  go_enter Try.func42, Try.ntmps42
  go_wp2_with (at_builtin; refine wp_appends slI rfl _ _ rfl _ _ _ _ _ _ hO hI hEl (by simpa using hlen) rfl rfl ?_; intro v1 w1 hO1 hE1; rw [← Hw.out] at hO1 hE1; obtain ⟨ao, c, rfl, -⟩ := hO1.shape; have hr := hRc.ext hE1; unfold Res at hr; rw [← Hsz.out] at hr)
  exact bodyPost_ret (v := .agg #[.slice ao ([] ++ l).length c]) (by simp [results, Try.results42, go_sem, hr]) rfl ⟨ao, c, by simp, (by simpa using (Own.setCell_below hO1 (show w.heap.size + 1 < wc.heap.size by rw [Hsz.out]; exact hwc) _).mono (hE0.trans hAc)), hE0.trans (Ext.setCell (hAc.trans hE1) (Nat.le_of_eq Hsz.out.symm) _)⟩
end Go.Zz

/- Claims of sums: stabilizers, pairs of Kneser's bound. -/
namespace Go.Zz
open Go.RowKit Go.Proofs
set_option maxHeartbeats 2000000
set_option maxRecDepth 20000

/-- the elements below k that shift a set onto itself -/
def stabTo (l : List Int) (a k : Nat) : Nat := bset ((List.range k).filter (fun x => decide (shiftF l a x = a)))
theorem stabTo_yes {l : List Int} {a k : Nat} (h : shiftF l a k = a) : stabTo l a (k + 1) = stabTo l a k ||| 2 ^ k := by
  unfold stabTo; rw [List.range_succ, List.filter_append]; simp only [List.filter_cons, List.filter_nil, h, decide_true, if_true]; exact bset_snoc _ _
theorem stabTo_no {l : List Int} {a k : Nat} (h : ¬ shiftF l a k = a) : stabTo l a (k + 1) = stabTo l a k := by
  unfold stabTo; rw [List.range_succ, List.filter_append]; simp [h]
theorem stabTo_lt (l : List Int) (a k : Nat) : stabTo l a k < 2 ^ k := bset_lt fun _ hx => List.mem_range.1 (List.mem_filter.1 hx).1
def stabF (l : List Int) (a : Nat) : Nat := stabTo l a (ord l)
theorem stabF_lt (l : List Int) (a : Nat) : stabF l a < 2 ^ ord l := stabTo_lt l a _
def fullB (l : List Int) (a b : Int) : Bool := isSetB l a && isSetB l b && !(a == 0) && !(b == 0)
theorem fullB_set {l : List Int} {a b : Int} (h : (isSetB l a && isSetB l b) = false) : fullB l a b = false := by unfold fullB; rw [h]; rfl
theorem fullB_nat {l : List Int} {a b : Int} (h : fullB l a b = true) : ∃ m n : Nat, a = m ∧ b = n ∧ m ≠ 0 ∧ n ≠ 0 ∧ m < 2 ^ ord l ∧ n < 2 ^ ord l ∧ m < 2 ^ 24 ∧ n < 2 ^ 24 ∧ isGrp l = true ∧ isSetB l a = true ∧ isSetB l b = true := by
  unfold fullB at h
  simp only [Bool.and_eq_true, Bool.not_eq_true', beq_eq_false_iff_ne] at h
  obtain ⟨⟨⟨h1, h2⟩, h3⟩, h4⟩ := h
  obtain ⟨m, rfl, a1, a2, hg⟩ := isSetB_nat h1
  obtain ⟨n, rfl, b1, b2, -⟩ := isSetB_nat h2
  exact ⟨m, n, rfl, rfl, by omega, by omega, a1, b1, a2, b2, hg, h1, h2⟩
theorem cnt_sum_ge {l : List Int} (h : isGrp l = true) {a b : Nat} (ha : a ≠ 0) (ha2 : a < 2 ^ ord l) (hb : b < 2 ^ ord l) : cnt b ≤ cnt (sumF l a b) := by
  obtain ⟨x, hx⟩ := bit_of_pos ha
  rw [← cnt_shift h hb x]
  refine cnt_mono fun i hi => ?_
  obtain ⟨y, hy, by_, rfl⟩ := testBit_shiftF.1 hi
  exact testBit_sumF.2 ⟨x, y, Nat.lt_of_lt_of_le (bit_lt ha2 hx) (ord_bd h).2, hx, hy, by_, rfl⟩

theorem StabilizerOf_nat (v : Value) (l : List Int) (a : Nat) (w : World) (h : Ints w v l) (hs : isSetB l a = true) :
    Calls Try.prog 83 #[.agg #[v], .int .i64 a] w fun e w' => e = .returned (.int .i64 (stabF l a : Nat)) ∧ Ext w w' := by
  obtain ⟨wb, hwb⟩ : ∃ wb, wb = w.alloc (.cells #[v] 30) := ⟨_, rfl⟩
  have hE0 := (Ext.refl w).alloc (.cells #[v] 30)
  have hb := box_cell w v 30
  rw [← hwb] at hE0 hb
  have hg : ∀ W, Ext wb W → Ints W v l := fun W hW => h.ext (hE0.trans hW)
  have hE := Ext.refl wb
  have Hsz : Hid (w.heap.size + 1 = wb.heap.size) := Lib.hid (by rw [hwb]; simp [go_sem])
  have Hwb := Lib.hid hwb
  clear hwb h
  obtain ⟨a', e1, -, ha2, hgr⟩ := isSetB_nat hs
  obtain rfl : a = a' := by omega
  have Hgr := Lib.hid hgr
  have hob := ord_bd hgr
  clear hgr e1
  go_enter Try.func83, Try.ntmps83
  go_wp2_with fail
  rw [← Hwb.out]
  go_wp2_with (first | (go_at_call 109; refine (IsSet_val _ _ _ _ (hg _ hE) (hs)).mono ?_; rintro e w' ⟨rfl, hE'⟩; replace hE := hE.trans hE'; clear hE') | (go_at_call 59; refine (OrderOf_grp _ _ _ (hg _ hE) (Hgr)).mono ?_; rintro e w' ⟨rfl, hE'⟩; replace hE := hE.trans hE'; clear hE'))
  clear hs
  go_loopw [5, 13] (fun ov xv wr => ∃ k : Nat, k ≤ ord l ∧ xv = .int .i64 k ∧ ov = .int .i64 (stabTo l a k : Nat) ∧ Ext wb wr) (fun _ x _ => ord l - (intOf x).toNat)
  case atStart => exact ⟨0, by omega, rfl, rfl, hE⟩
  case round =>
    clear hE
    obtain ⟨k, hk, rfl, rfl, hE⟩ := hrel
    have hbx := hb _ hE
    by_cases hlt : k < ord l
    · have hst : stabTo l a k < 2 ^ 24 := Nat.lt_of_lt_of_le (stabTo_lt l a k) (Nat.pow_le_pow_right (by omega) (by omega))
      have hsf := shiftF_bd Hgr.out a k
      have hs1 := ishl_one (n := k) (by omega)
      have hs2 := ior_pw hst (show k < 24 by omega)
      by_cases hq : shiftF l a k = a
      · have Hn := Lib.hid (stabTo_yes hq)
        have hqi : ((shiftF l a k : Int) == (a : Int)) = true := by rw [hq]; simp
        clear hq
        go_wp2_with (first | (go_at_call 139; refine (shift_any _ _ _ _ _ (hg _ hE) (Hgr) (ha2) ((by omega))).mono ?_; rintro e w' ⟨rfl, hE'⟩; replace hE := hE.trans hE'; clear hE'))
        go_roundw
        case rel => exact ⟨k + 1, by omega, by go_num, by rw [Hn.out], hE⟩
        case measure => (simp [intOf]; omega)
      · have Hn := Lib.hid (stabTo_no hq)
        have hqi : ((shiftF l a k : Int) == (a : Int)) = false := by simp; omega
        clear hq
        go_wp2_with (first | (go_at_call 139; refine (shift_any _ _ _ _ _ (hg _ hE) (Hgr) (ha2) ((by omega))).mono ?_; rintro e w' ⟨rfl, hE'⟩; replace hE := hE.trans hE'; clear hE'))
        go_roundw
        case rel => exact ⟨k + 1, by omega, by go_num, by rw [Hn.out], hE⟩
        case measure => (simp [intOf]; omega)
    · have hkl : k = ord l := by omega
      subst hkl
      go_wp2_with fail
      go_ret
      exact ⟨rfl, hE0.trans hE⟩
--%call l6Stabilizer 68 ext l6Stabilizer_any _ _ _ _ ({0}) ({1}) ({2})
theorem l6Stabilizer_any (v : Value) (l : List Int) (a : Nat) (w : World) (h : Ints w v l) (Hgr : Hid (isGrp l = true)) (ha2 : a < 2 ^ 24) :
    Calls Try.prog 68 #[.agg #[v], .int .i64 a] w fun e w' => e = .returned (.int .i64 (stabF l a : Nat)) ∧ Ext w w' := by
  obtain ⟨wb, hwb⟩ : ∃ wb, wb = w.alloc (.cells #[v] 30) := ⟨_, rfl⟩
  have hE0 := (Ext.refl w).alloc (.cells #[v] 30)
  have hb := box_cell w v 30
  rw [← hwb] at hE0 hb
  have hg : ∀ W, Ext wb W → Ints W v l := fun W hW => h.ext (hE0.trans hW)
  have hE := Ext.refl wb
  have Hsz : Hid (w.heap.size + 1 = wb.heap.size) := Lib.hid (by rw [hwb]; simp [go_sem])
  have Hwb := Lib.hid hwb
  clear hwb h
  have hob := ord_bd Hgr.out
  go_enter Try.func68, Try.ntmps68
  go_wp2_with fail
  rw [← Hwb.out]
  go_loopw [5, 6] (fun ov xv wr => ∃ k : Nat, k ≤ ord l ∧ xv = .int .i64 k ∧ ov = .int .i64 (stabTo l a k : Nat) ∧ Ext wb wr) (fun _ x _ => ord l - (intOf x).toNat)
  case atStart => exact ⟨0, by omega, rfl, rfl, hE⟩
  case round =>
    clear hE
    obtain ⟨k, hk, rfl, rfl, hE⟩ := hrel
    have hbx := hb _ hE
    by_cases hlt : k < ord l
    · have hst : stabTo l a k < 2 ^ 24 := Nat.lt_of_lt_of_le (stabTo_lt l a k) (Nat.pow_le_pow_right (by omega) (by omega))
      have hsf := shiftF_bd Hgr.out a k
      have hs1 := ishl_one (n := k) (by omega)
      have hs2 := ior_pw hst (show k < 24 by omega)
      by_cases hq : shiftF l a k = a
      · have Hn := Lib.hid (stabTo_yes hq)
        have hqi : ((shiftF l a k : Int) == (a : Int)) = true := by rw [hq]; simp
        clear hq
        go_wp2_with (first | (go_at_call 51; refine (l2Order_any _ _ _ (hg _ hE) (Hgr)).mono ?_; rintro e w' ⟨rfl, hE'⟩; replace hE := hE.trans hE'; clear hE') | (go_at_call 128; refine (l3Shift_any _ _ _ _ _ (hg _ hE) (Hgr) (ha2) ((by omega))).mono ?_; rintro e w' ⟨rfl, hE'⟩; replace hE := hE.trans hE'; clear hE'))
        go_roundw
        case rel => exact ⟨k + 1, by omega, by go_num, by rw [Hn.out], hE⟩
        case measure => (simp [intOf]; omega)
      · have Hn := Lib.hid (stabTo_no hq)
        have hqi : ((shiftF l a k : Int) == (a : Int)) = false := by simp; omega
        clear hq
        go_wp2_with (first | (go_at_call 51; refine (l2Order_any _ _ _ (hg _ hE) (Hgr)).mono ?_; rintro e w' ⟨rfl, hE'⟩; replace hE := hE.trans hE'; clear hE') | (go_at_call 128; refine (l3Shift_any _ _ _ _ _ (hg _ hE) (Hgr) (ha2) ((by omega))).mono ?_; rintro e w' ⟨rfl, hE'⟩; replace hE := hE.trans hE'; clear hE'))
        go_roundw
        case rel => exact ⟨k + 1, by omega, by go_num, by rw [Hn.out], hE⟩
        case measure => (simp [intOf]; omega)
    · have hkl : k = ord l := by omega
      subst hkl
      go_wp2_with (first | (go_at_call 51; refine (l2Order_any _ _ _ (hg _ hE) (Hgr)).mono ?_; rintro e w' ⟨rfl, hE'⟩; replace hE := hE.trans hE'; clear hE'))
      go_ret
      exact ⟨rfl, hE0.trans hE⟩
theorem areFull_any (v : Value) (l : List Int) (a b : Int) (w : World) (h : Ints w v l) :
    Calls Try.prog 81 #[.agg #[v], .int .i64 a, .int .i64 b] w fun e w' => e = .returned (.bool (fullB l a b)) ∧ Ext w w' := by
  obtain ⟨wb, hwb⟩ : ∃ wb, wb = w.alloc (.cells #[v] 30) := ⟨_, rfl⟩
  have hE0 := (Ext.refl w).alloc (.cells #[v] 30)
  have hb := box_cell w v 30
  rw [← hwb] at hE0 hb
  have hg : ∀ W, Ext wb W → Ints W v l := fun W hW => h.ext (hE0.trans hW)
  have hE := Ext.refl wb
  have Hsz : Hid (w.heap.size + 1 = wb.heap.size) := Lib.hid (by rw [hwb]; simp [go_sem])
  have Hwb := Lib.hid hwb
  clear hwb h
  have hbx := hb wb hE
  have har := areF_two l a b
  cases hs : (isSetB l a && isSetB l b)
  · have Hs := Lib.hid (fullB_set hs)
    rw [hs] at har
    clear hs
    go_enter Try.func81, Try.ntmps81
    go_wp2_with fail
    rw [← Hwb.out]; try rw [Hsz.out]
    go_wp2_with (first | (go_at_call 138; refine Calls.mono (areSets_val _ _ _ _ _ (hg _ (by repeat (first | assumption | exact Ext.refl _ | (apply And.left; assumption) | apply Ext.drew | apply Ext.alloc))) (ints_two _ _ _ _) har) ?_; rintro e w' ⟨rfl, hE'⟩; replace hE := hE.trans (Ext.trans (by repeat (first | assumption | exact Ext.refl _ | (apply And.left; assumption) | apply Ext.drew | apply Ext.alloc)) hE'); clear hE'))
    go_ret
    exact ⟨ret_bool Hs.out.symm, hE0.trans hE⟩
  · have Hs : Hid (fullB l a b = (!(a == 0) && !(b == 0))) := Lib.hid (by unfold fullB; rw [hs]; rfl)
    rw [hs] at har
    clear hs
    cases ha : (a == 0) <;> cases hb0 : (b == 0)
    all_goals
      have ha' : (a != 0) = !(a == 0) := rfl
      have hb' : (b != 0) = !(b == 0) := rfl
      rw [ha] at ha'
      rw [hb0] at hb'
      rw [ha, hb0] at Hs
      go_enter Try.func81, Try.ntmps81
      go_wp2_with fail
      rw [← Hwb.out]; try rw [Hsz.out]
      go_wp2_with (first | (go_at_call 138; refine Calls.mono (areSets_val _ _ _ _ _ (hg _ (by repeat (first | assumption | exact Ext.refl _ | (apply And.left; assumption) | apply Ext.drew | apply Ext.alloc))) (ints_two _ _ _ _) har) ?_; rintro e w' ⟨rfl, hE'⟩; replace hE := hE.trans (Ext.trans (by repeat (first | assumption | exact Ext.refl _ | (apply And.left; assumption) | apply Ext.drew | apply Ext.alloc)) hE'); clear hE'))
      go_ret
      exact ⟨ret_bool (by rw [Hs.out]; simp_all), hE0.trans hE⟩
/-- the bound of Kneser, as the reference writes it -/
def knF (l : List Int) (a b : Nat) : Int := (cnt (sumF l a (stabF l (sumF l a b))) : Int) + cnt (sumF l b (stabF l (sumF l a b))) - cnt (stabF l (sumF l a b))
theorem knF_pos {l : List Int} (h : isGrp l = true) {a b : Nat} (ha : a ≠ 0) (ha2 : a < 2 ^ ord l) : 0 ≤ knF l a b := by
  have := cnt_sum_ge h ha ha2 (stabF_lt l (sumF l a b))
  unfold knF; omega
theorem sKneserBound_no (v : Value) (l : List Int) (a b : Int) (w : World) (h : Ints w v l) (hf : fullB l a b = false) :
    Calls Try.prog 66 #[.agg #[v], .int .i64 a, .int .i64 b] w fun e w' => e = .returned (.int .i64 (-1)) ∧ Ext w w' := by
  obtain ⟨wb, hwb⟩ : ∃ wb, wb = w.alloc (.cells #[v] 30) := ⟨_, rfl⟩
  have hE0 := (Ext.refl w).alloc (.cells #[v] 30)
  have hb := box_cell w v 30
  rw [← hwb] at hE0 hb
  have hg : ∀ W, Ext wb W → Ints W v l := fun W hW => h.ext (hE0.trans hW)
  have hE := Ext.refl wb
  have Hsz : Hid (w.heap.size + 1 = wb.heap.size) := Lib.hid (by rw [hwb]; simp [go_sem])
  have Hwb := Lib.hid hwb
  clear hwb h
  have hbx := hb wb hE
  cases h1 : isSetB l a
  ·
    go_enter Try.func66, Try.ntmps66
    go_wp2_with fail
    rw [← Hwb.out]
    go_wp2_with (first | (go_at_call 107; refine (sIsSet_val _ _ _ _ (hg _ hE) (h1)).mono ?_; rintro e w' ⟨rfl, hE'⟩; replace hE := hE.trans hE'; clear hE'))
    go_ret
    exact ⟨rfl, hE0.trans hE⟩
  · cases h2 : isSetB l b
    ·
      go_enter Try.func66, Try.ntmps66
      go_wp2_with fail
      rw [← Hwb.out]
      go_wp2_with (first | (go_at_call 107; (first | (with_reducible refine Calls.mono (sIsSet_val _ _ a _ (hg _ hE) h1) ?_) | (with_reducible refine Calls.mono (sIsSet_val _ _ b _ (hg _ hE) h2) ?_)); rintro e w' ⟨rfl, hE'⟩; replace hE := hE.trans hE'; clear hE'))
      go_ret
      exact ⟨rfl, hE0.trans hE⟩
    · cases h3 : (a == 0)
      · have h4 : (b == 0) = true := by unfold fullB at hf; rw [h1, h2, h3] at hf; simpa using hf
        clear hf
        ·
          go_enter Try.func66, Try.ntmps66
          go_wp2_with fail
          rw [← Hwb.out]
          go_wp2_with (first | (go_at_call 107; (first | (with_reducible refine Calls.mono (sIsSet_val _ _ a _ (hg _ hE) h1) ?_) | (with_reducible refine Calls.mono (sIsSet_val _ _ b _ (hg _ hE) h2) ?_)); rintro e w' ⟨rfl, hE'⟩; replace hE := hE.trans hE'; clear hE'))
          go_ret
          exact ⟨rfl, hE0.trans hE⟩
      · clear hf
        ·
          go_enter Try.func66, Try.ntmps66
          go_wp2_with fail
          rw [← Hwb.out]
          go_wp2_with (first | (go_at_call 107; (first | (with_reducible refine Calls.mono (sIsSet_val _ _ a _ (hg _ hE) h1) ?_) | (with_reducible refine Calls.mono (sIsSet_val _ _ b _ (hg _ hE) h2) ?_)); rintro e w' ⟨rfl, hE'⟩; replace hE := hE.trans hE'; clear hE'))
          go_ret
          exact ⟨rfl, hE0.trans hE⟩
theorem sKneserBound_yes (v : Value) (l : List Int) (a b : Nat) (w : World) (h : Ints w v l) (hf : fullB l a b = true) :
    Calls Try.prog 66 #[.agg #[v], .int .i64 a, .int .i64 b] w fun e w' => e = .returned (.int .i64 (knF l a b)) ∧ Ext w w' := by
  obtain ⟨wb, hwb⟩ : ∃ wb, wb = w.alloc (.cells #[v] 30) := ⟨_, rfl⟩
  have hE0 := (Ext.refl w).alloc (.cells #[v] 30)
  have hb := box_cell w v 30
  rw [← hwb] at hE0 hb
  have hg : ∀ W, Ext wb W → Ints W v l := fun W hW => h.ext (hE0.trans hW)
  have hE := Ext.refl wb
  have Hsz : Hid (w.heap.size + 1 = wb.heap.size) := Lib.hid (by rw [hwb]; simp [go_sem])
  have Hwb := Lib.hid hwb
  clear hwb h
  have hbx := fun U => hb _ (lat_ext wb U)
  have hbx1 := hb wb hE
  obtain ⟨m, n, e1, e2, h3, h4, -, -, ha, hb', hgr, h1, h2⟩ := fullB_nat hf
  obtain rfl : a = m := by omega
  obtain rfl : b = n := by omega
  have Hgr := Lib.hid hgr
  have hst : stabF l (sumF l a b) < 2 ^ 24 := Nat.lt_of_lt_of_le (stabF_lt l _) (pow_ord hgr)
  have hsum := sumF_bd hgr a b
  have q1 := sumF_bd hgr a (stabF l (sumF l a b))
  have q2 := sumF_bd hgr b (stabF l (sumF l a b))
  have r1 := cnt_le (sumF l a (stabF l (sumF l a b)))
  have r2 := cnt_le (sumF l b (stabF l (sumF l a b)))
  have r3 := cnt_le (stabF l (sumF l a b))
  have h3' : ((a : Int) == 0) = false := by simp; omega
  have h4' : ((b : Int) == 0) = false := by simp; omega
  have w1 : IntKind.i64.wrap ((cnt (sumF l a (stabF l (sumF l a b))) : Int) + (cnt (sumF l b (stabF l (sumF l a b))) : Int)) = (cnt (sumF l a (stabF l (sumF l a b))) : Int) + (cnt (sumF l b (stabF l (sumF l a b))) : Int) := IntWalk.i64_in _ (by omega)
  have w2 : IntKind.i64.wrap ((cnt (sumF l a (stabF l (sumF l a b))) : Int) + (cnt (sumF l b (stabF l (sumF l a b))) : Int) - (cnt (stabF l (sumF l a b)) : Int)) = (cnt (sumF l a (stabF l (sumF l a b))) : Int) + (cnt (sumF l b (stabF l (sumF l a b))) : Int) - (cnt (stabF l (sumF l a b)) : Int) := IntWalk.i64_in _ (by omega)
  clear hgr e1 e2 hf
  go_enter Try.func66, Try.ntmps66
  go_wp2_with fail
  rw [← Hwb.out]
  go_wp2_with (first | (go_at_call 107; (first | (with_reducible refine Calls.mono (sIsSet_val _ _ (a : Int) _ (hg _ hE) h1) ?_) | (with_reducible refine Calls.mono (sIsSet_val _ _ (b : Int) _ (hg _ hE) h2) ?_)); rintro e w' ⟨rfl, hE'⟩; replace hE := hE.trans hE'; clear hE'))
  (refine wp_region_lat (wb) (by kernel_rfl) (by kernel_rfl) hE ?_); (repeat (go_big_quiet_step (first | (go_at_call 67; exact Calls.lat (l4Sum_any _ _ _ _ _ (hg _ (lat_ext wb _)) (Hgr) (ha) (hb'))) | (go_at_call 68; exact Calls.lat (l6Stabilizer_any _ _ _ _ (hg _ (lat_ext wb _)) (Hgr) (hsum)))))); (refine wpQuiet_nil ?_); (intro W hE'); (replace hE := lat_of hE'); (clear hE')
  go_wp2_with fail
  (refine wp_region_lat (wb) (by kernel_rfl) (by kernel_rfl) hE ?_); (repeat (go_big_quiet_step (first | (go_at_call 67; exact Calls.lat (l4Sum_any _ _ _ _ _ (hg _ (lat_ext wb _)) (Hgr) (ha) (hst))) | (go_at_call 67; exact Calls.lat (l4Sum_any _ _ _ _ _ (hg _ (lat_ext wb _)) (Hgr) (hb') (hst))) | (go_at_call 80; (first | (with_reducible exact Calls.lat_same (l3Bits_any _ q1 _)) | (with_reducible exact Calls.lat_same (l3Bits_any _ q2 _)) | (with_reducible exact Calls.lat_same (l3Bits_any _ hst _))))))); (refine wpQuiet_nil ?_); (intro W hE'); (replace hE := lat_of hE'); (clear hE')
  go_wp2_with fail
  go_ret
  exact ⟨ret_int (by unfold knF; rfl), hE0.trans hE⟩
def kpH (l : List Int) (a b : Nat) : Nat := stabF l (sumF l a b)
def csK (l : List Int) (a b : Int) : Int := if fullB l a b then 1 else 0
def csA (l : List Int) (a b : Int) : Int := if fullB l a b then a else 0
def csB (l : List Int) (a b : Int) : Int := if fullB l a b then b else 0
def csS (l : List Int) (a b : Int) : Int := if fullB l a b then (sumF l a.toNat b.toNat : Int) else 0
def csP (l : List Int) (a b : Int) : Int := if fullB l a b then (kpH l a.toNat b.toNat : Int) else 0
def csG (l : List Int) (a b : Int) : List Int := if fullB l a b then l else []
theorem cs_no {l : List Int} {a b : Int} (h : fullB l a b = false) : csK l a b = 0 ∧ csA l a b = 0 ∧ csB l a b = 0 ∧ csS l a b = 0 ∧ csP l a b = 0 ∧ csG l a b = [] := by
  unfold csK csA csB csS csP csG; rw [h]; exact ⟨rfl, rfl, rfl, rfl, rfl, rfl⟩
theorem cs_yes {l : List Int} {a b : Nat} (h : fullB l a b = true) : csK l a b = 1 ∧ csA l a b = a ∧ csB l a b = b ∧ csS l a b = (sumF l a b : Int) ∧ csP l a b = (kpH l a b : Int) ∧ csG l a b = l := by
  unfold csK csA csB csS csP csG; rw [h]; exact ⟨rfl, rfl, rfl, rfl, rfl, rfl⟩
end Go.Zz

/- Progressions and their differences. -/
namespace Go.Zz
open Go.RowKit Go.Proofs
set_option maxHeartbeats 1000000

/-- the terms of a progression -/
def prCur (l : List Int) (s d : Nat) : Nat → Nat
  | 0 => s
  | k + 1 => addF l (prCur l s d k) d
def prSet (l : List Int) (s d n : Nat) : Nat := bset ((List.range n).map (prCur l s d))
theorem prSet_succ (l : List Int) (s d k : Nat) : prSet l s d (k + 1) = prSet l s d k ||| 2 ^ prCur l s d k := by
  unfold prSet; rw [List.range_succ, List.map_append]; exact bset_snoc _ _
theorem prCur_bd {l : List Int} (h : isGrp l = true) {s : Nat} (hs : s < 24) (d : Nat) : ∀ k, prCur l s d k < 24
  | 0 => hs
  | _ + 1 => addF_bd h _ _
theorem prSet_bd {l : List Int} (h : isGrp l = true) {s : Nat} (hs : s < 24) (d n : Nat) : prSet l s d n < 2 ^ 24 := by
  refine bset_lt fun x hx => ?_
  obtain ⟨k, _, rfl⟩ := List.mem_map.1 hx
  exact prCur_bd h hs d k
/-- whether a set is a progression by a step, from one of the elements of a list on -/
def diffL (l : List Int) (a d : Nat) (L : List Nat) : Bool := L.any (fun x => decide (prSet l x d (cnt a) = a))
def diffB (l : List Int) (a d : Nat) : Bool := diffL l a d (elems a)
def difTo (l : List Int) (a k : Nat) : List Nat := (List.range k).filter (diffB l a)
theorem difTo_yes {l : List Int} {a k : Nat} (h : diffB l a k = true) : difTo l a (k + 1) = difTo l a k ++ [k] := by
  unfold difTo; rw [List.range_succ, List.filter_append]; simp [h]
theorem difTo_no {l : List Int} {a k : Nat} (h : diffB l a k = false) : difTo l a (k + 1) = difTo l a k := by
  unfold difTo; rw [List.range_succ, List.filter_append]; simp [h]
theorem difTo_len (l : List Int) (a k : Nat) : (difTo l a k).length ≤ k := by
  unfold difTo; exact Nat.le_trans (List.length_filter_le _ _) (by simp)
def difF (l : List Int) (a : Int) : List Int := if isOneB l a then castL (difTo l a.toNat (ord l)) else []
theorem difF_no {l : List Int} {a : Int} (h : isOneB l a = false) : difF l a = [] := by unfold difF; rw [h]; rfl
theorem difF_yes {l : List Int} {n : Nat} (h : isOneB l n = true) : difF l n = castL (difTo l n (ord l)) := by unfold difF; rw [if_pos h]; rfl
theorem diffL_take {l : List Int} {a d : Nat} {L : List Nat} (h : ∀ j, j < L.length → prSet l (nthN L j) d (cnt a) ≠ a) : diffL l a d L = false := by
  unfold diffL
  rw [← Bool.not_eq_true, List.any_eq_true]
  rintro ⟨x, hx, hd⟩
  obtain ⟨j, hj, rfl⟩ := List.getElem_of_mem hx
  have := h j hj
  unfold nthN at this
  rw [List.getD_eq_getElem?_getD, List.getElem?_eq_getElem hj] at this
  exact this (of_decide_eq_true hd)
theorem diffL_at {l : List Int} {a d : Nat} {L : List Nat} {j : Nat} (hj : j < L.length) (h : prSet l (nthN L j) d (cnt a) = a) : diffL l a d L = true := by
  unfold diffL; rw [List.any_eq_true]; exact ⟨_, nthN_mem hj, decide_eq_true h⟩
end Go.Zz

/- Differences of progressions. -/
namespace Go.Zz
open Go.RowKit Go.Proofs
set_option maxHeartbeats 1000000
set_option maxRecDepth 20000

end Go.Zz

/- append to a slice that is empty without room, or owned behind a world. -/
namespace Go.Zz
open Go.RowKit Go.Proofs
set_option maxHeartbeats 400000

/-- v is the empty slice []int{} that reads as [], or it is owned in a block from w0 on -/
def OwnE (TI : TypeId) (wb w0 w : World) (v : Value) (l : List Int) : Prop :=
  (∃ g, wb.heap.size ≤ g ∧ v = .slice (some ⟨g, 0, none⟩) 0 0 ∧ l = [] ∧ Blk w g TI #[]) ∨ Own TI w0 w v l
theorem OwnE.ext {TI : TypeId} {wb w0 w w' : World} {v : Value} {l : List Int} (h : OwnE TI wb w0 w v l) (hE : Ext w w') : OwnE TI wb w0 w' v l := by
  rcases h with ⟨g, h0, h1, h2, h3⟩ | h
  · exact Or.inl ⟨g, h0, h1, h2, h3.ext hE⟩
  · exact Or.inr (h.ext hE)
theorem OwnE.own {TI : TypeId} {wb w0 w : World} {v : Value} {l : List Int} (h : OwnE TI wb w0 w v l) (hE : Ext wb w0) : Own TI wb w v l := by
  rcases h with ⟨g, h0, rfl, rfl, h3⟩ | h
  · exact ⟨⟨by simp, Or.inr ⟨g, 0, #[], rfl, h0, h3, Nat.le_refl _, Nat.zero_le _, by simp, by simp⟩⟩, by simp⟩
  · exact h.mono hE
theorem OwnE.start {TI : TypeId} {wb w1 w : World} (w0 : World) (hB : Blk w1 wb.heap.size TI #[]) (hE : Ext w1 w) : OwnE TI wb w0 w (.slice (some ⟨wb.heap.size, 0, none⟩) 0 0) [] := Or.inl ⟨_, Nat.le_refl _, rfl, rfl, hB.ext hE⟩
section
variable {P : Program} {ops : Array Oper} {rest : List Oper} {o : Oper} {a : Act} {Q : Exit → Act → World → Prop} {T TI : TypeId}
theorem wp_append1e (hT : IntSl P T TI) (hg : o.guard = none) (s x : Operand) (hop : o.op = Op.call { callee := Callee.builtin Builtin.append, args := #[s, x], argTypes := #[T, T] })
    (wb w0 W : World) (v : Value) (l : List Int) (y : Int) (hO : OwnE TI wb w0 W v l) (hE : Ext w0 W) (hn : l.length < 17592186044416) (hs : a.eval s = v) (hx : a.eval x = .slice (some ⟨W.heap.size, 0, none⟩) 1 1)
    (hK : ∀ v' w', Own TI w0 w' v' (l ++ [y]) → Ext w0 w' → wpList P ops Q rest (a.put o.dst v') w') :
    wpList P ops Q (o :: rest) a (W.alloc (.cells #[.int .i64 y] TI)) := by
  rcases hO with ⟨g, -, rfl, rfl, hB⟩ | hO
  · obtain ⟨i, hi, hz, hs1, hby⟩ := hT.info
    have hE1 := hE.alloc (.cells #[.int .i64 y] TI)
    obtain ⟨v', w', hrun, r1, r2⟩ := run_append_arg_grows (P := P) (w := W.alloc (.cells #[.int .i64 y] TI)) T o.type TI i (.int .i64 0) 1 8 hT.und hi hz hs1 hby rfl (by omega) ⟨g, 0, none⟩ 0 0 [] (by simp) (by simp) ⟨W.heap.size, 0, none⟩ 1 1 [.int .i64 y] rfl (cell_one_new _ _ _) (by omega) (by unfold maxLen; omega) (by omega)
    refine wpList_plain hg fun K hK' => ?_
    unfold Oper.wp
    simp [execOp, hop, resolve, invoke, builtin, hs, hx, hrun, Result.andThen]
    have hO' : Own TI (W.alloc (.cells #[.int .i64 y] TI)) w' v' [y] := ⟨by simpa using r1, by simp⟩
    exact hK' _ _ (hK _ _ (by simpa using hO'.mono hE1) (hE1.grown r2 (by simp)))
  · exact wp_append1 hT hg s x hop w0 W v l y hO hE hn hs hx hK
end
end Go.Zz

/- Differences of progressions: the reference. -/
namespace Go.Zz
open Go.RowKit Go.Proofs
set_option maxHeartbeats 1000000
set_option maxRecDepth 20000

end Go.Zz

/- Defects of sums, periods, common differences, the case of Kemperman. -/
namespace Go.Zz
open Go.RowKit Go.Proofs
set_option maxHeartbeats 1000000
set_option maxRecDepth 20000

def sdF (l : List Int) (a b : Int) : Int := if fullB l a b then (cnt (sumF l a.toNat b.toNat) : Int) - cnt a.toNat - cnt b.toNat + 1 else -100
theorem sdF_no {l : List Int} {a b : Int} (h : fullB l a b = false) : sdF l a b = -100 := by unfold sdF; rw [h]; rfl
theorem sdF_yes {l : List Int} {a b : Nat} (h : fullB l a b = true) : sdF l a b = (cnt (sumF l a b) : Int) - cnt a - cnt b + 1 := by unfold sdF; rw [if_pos h]; rfl
theorem sdF_bd (l : List Int) (a b : Int) (h : fullB l a b = true) : -47 ≤ sdF l a b ∧ sdF l a b ≤ 25 := by
  obtain ⟨m, n, rfl, rfl, -⟩ := fullB_nat h
  rw [sdF_yes h]
  have := cnt_le (sumF l m n); have := cnt_le m; have := cnt_le n
  omega
theorem shiftF_zero {l : List Int} (h : isGrp l = true) {a : Nat} (ha : a < 2 ^ ord l) : shiftF l a 0 = a := by
  apply Nat.eq_of_testBit_eq
  intro i
  apply bool_eq_of
  rw [testBit_shiftF]
  constructor
  · rintro ⟨y, _, hy, e⟩
    rw [addF_zero l (isGrp_ords h) y (bit_lt ha hy)] at e
    subst e; exact hy
  · intro hi
    have := bit_lt ha hi
    exact ⟨i, Nat.lt_of_lt_of_le this (ord_bd h).2, hi, addF_zero l (isGrp_ords h) i this⟩
theorem testBit_stabTo {l : List Int} {a k x : Nat} : (stabTo l a k).testBit x = true ↔ x < k ∧ shiftF l a x = a := by
  unfold stabTo; rw [testBit_bset]; simp
theorem stabF_zero {l : List Int} (h : isGrp l = true) {a : Nat} (ha : a < 2 ^ ord l) : (stabF l a).testBit 0 = true :=
  testBit_stabTo.2 ⟨(ord_bd h).1, shiftF_zero h ha⟩
theorem cnt_gt_one {n : Nat} (h : n.testBit 0 = true) (hn : n < 2 ^ 24) : 1 < cnt n ↔ 1 < n := by
  rw [Nat.testBit_zero] at h
  have h1 : n % 2 = 1 := of_decide_eq_true h
  have h2 := cnt_half n hn
  by_cases h3 : 1 < n
  · have := cnt_pos (a := n / 2) (by omega) (by omega)
    omega
  · have e : n / 2 = 0 := by omega
    rw [e, cnt_zero] at h2
    omega
def perF (l : List Int) (a : Int) : Bool := isSetB l a && decide (1 < stabF l a.toNat)
theorem perF_no {l : List Int} {a : Int} (h : isSetB l a = false) : perF l a = false := by unfold perF; rw [h]; rfl
theorem perF_yes {l : List Int} {n : Nat} (h : isSetB l n = true) : perF l n = decide (1 < stabF l n) := by unfold perF; rw [h]; rfl
/-- where a list has a number first -/
def idxF (M : List Int) (x : Int) : Int := match (List.range M.length).find? (fun k => decide (nth M k = x)) with | some k => (k : Int) | none => -1
theorem idxF_at {M : List Int} {x : Int} {k : Nat} (hk : k < M.length) (h : ∀ j, j < k → nth M j ≠ x) (e : nth M k = x) : idxF M x = k := by
  unfold idxF; rw [find_at hk (fun j hj => decide_eq_false (h j hj)) (decide_eq_true e)]
theorem idxF_none {M : List Int} {x : Int} (h : ∀ j, j < M.length → nth M j ≠ x) : idxF M x = -1 := by
  unfold idxF; rw [find_none (fun j hj => decide_eq_false (h j hj))]
theorem nmem_of {M : List Int} {x : Int} (h : ∀ j, j < M.length → nth M j ≠ x) : x ∉ M := fun hx => by
  obtain ⟨k, hk, e⟩ := mem_nth hx; exact h k hk e
def memB (M : List Int) (x : Int) : Bool := decide (x ∈ M)
theorem memB_idx (M : List Int) (x : Int) : decide (0 ≤ idxF M x) = memB M x := by
  by_cases h : ∃ k, k < M.length ∧ nth M k = x
  · have : x ∈ M := by obtain ⟨k, hk, e⟩ := h; rw [← e]; exact nth_mem hk
    have hm : memB M x = true := decide_eq_true this
    rw [hm, decide_eq_true_eq]
    unfold idxF
    cases hf : (List.range M.length).find? (fun k => decide (nth M k = x)) with
    | some k => simp only []; omega
    | none =>
      rw [List.find?_eq_none] at hf
      obtain ⟨k, hk, e⟩ := h
      exact absurd (decide_eq_true e) (hf k (List.mem_range.2 hk))
  · have h' : ∀ j, j < M.length → nth M j ≠ x := fun j hj e => h ⟨j, hj, e⟩
    rw [idxF_none h']
    have hm : memB M x = false := decide_eq_false (nmem_of h')
    rw [hm]; rfl
def comK (L M : List Int) : Option Nat := (List.range L.length).find? (fun k => memB M (nth L k))
def comD (L M : List Int) : Int := match comK L M with | some k => nth L k | none => 0
def comB (L M : List Int) : Bool := (comK L M).isSome
theorem com_at {L M : List Int} {k : Nat} (hk : k < L.length) (h : ∀ j, j < k → memB M (nth L j) = false) (e : memB M (nth L k) = true) : comD L M = nth L k ∧ comB L M = true := by
  unfold comD comB comK; rw [find_at hk h e]; exact ⟨rfl, rfl⟩
theorem com_none {L M : List Int} (h : ∀ j, j < L.length → memB M (nth L j) = false) : comD L M = 0 ∧ comB L M = false := by
  unfold comD comB comK; rw [find_none h]; exact ⟨rfl, rfl⟩

theorem areFull_val (v : Value) (l : List Int) (a b : Int) (w : World) (h : Ints w v l) {c : Bool} (hc : fullB l a b = c) :
    Calls Try.prog 81 #[.agg #[v], .int .i64 a, .int .i64 b] w fun e w' => e = .returned (.bool c) ∧ Ext w w' := by subst hc; exact areFull_any v l a b w h
def kcF (l : List Int) (a b : Int) : ByteArray :=
  if fullB l a b then
    if 0 < sdF l a b then ⟨#[108, 97, 114, 103, 101]⟩ else if perF l (sumF l a.toNat b.toNat : Nat) then ⟨#[112, 101, 114, 105, 111, 100, 105, 99]⟩
    else if cnt a.toNat = 1 ∨ cnt b.toNat = 1 then ⟨#[111, 110, 101]⟩ else if comB (difF l a) (difF l b) then ⟨#[115, 116, 101, 112, 115]⟩ else ⟨#[111, 116, 104, 101, 114]⟩
  else ⟨#[]⟩
theorem kc_no {l : List Int} {a b : Int} (h : fullB l a b = false) : kcF l a b = ⟨#[]⟩ := by unfold kcF; rw [h]; rfl
theorem kc_1 {l : List Int} {a b : Nat} (h : fullB l a b = true) (h1 : 0 < sdF l a b) : kcF l a b = ⟨#[108, 97, 114, 103, 101]⟩ := by unfold kcF; rw [if_pos h, if_pos h1]
theorem kc_2 {l : List Int} {a b : Nat} (h : fullB l a b = true) (h1 : ¬ 0 < sdF l a b) (h2 : perF l (sumF l a b : Nat) = true) : kcF l a b = ⟨#[112, 101, 114, 105, 111, 100, 105, 99]⟩ := by
  unfold kcF; rw [if_pos h, if_neg h1]; exact if_pos h2
theorem kc_3 {l : List Int} {a b : Nat} (h : fullB l a b = true) (h1 : ¬ 0 < sdF l a b) (h2 : perF l (sumF l a b : Nat) = false) (h3 : cnt a = 1 ∨ cnt b = 1) : kcF l a b = ⟨#[111, 110, 101]⟩ := by
  unfold kcF; rw [if_pos h, if_neg h1, if_neg (by simp only [Int.toNat_natCast]; rw [h2]; decide)]; exact if_pos h3
theorem kc_4 {l : List Int} {a b : Nat} (h : fullB l a b = true) (h1 : ¬ 0 < sdF l a b) (h2 : perF l (sumF l a b : Nat) = false) (h3 : ¬ (cnt a = 1 ∨ cnt b = 1)) (h4 : comB (difF l a) (difF l b) = true) : kcF l a b = ⟨#[115, 116, 101, 112, 115]⟩ := by
  unfold kcF; rw [if_pos h, if_neg h1, if_neg (by simp only [Int.toNat_natCast]; rw [h2]; decide), if_neg (by simpa using h3)]; exact if_pos h4
theorem kc_5 {l : List Int} {a b : Nat} (h : fullB l a b = true) (h1 : ¬ 0 < sdF l a b) (h2 : perF l (sumF l a b : Nat) = false) (h3 : ¬ (cnt a = 1 ∨ cnt b = 1)) (h4 : comB (difF l a) (difF l b) = false) : kcF l a b = ⟨#[111, 116, 104, 101, 114]⟩ := by
  unfold kcF; rw [if_pos h, if_neg h1, if_neg (by simp only [Int.toNat_natCast]; rw [h2]; decide), if_neg (by simpa using h3), if_neg (by rw [h4]; decide)]
end Go.Zz

/- Direct sums, tilings, the bound of Kneser of the program, energies of the reference. -/
namespace Go.Zz
open Go.RowKit Go.Proofs
set_option maxHeartbeats 1000000
set_option maxRecDepth 4000

def drF (l : List Int) (a b : Int) : Bool := (isSetB l a && isSetB l b) && decide (cnt (sumF l a.toNat b.toNat) = cnt a.toNat * cnt b.toNat)
theorem drF_no {l : List Int} {a b : Int} (h : (isSetB l a && isSetB l b) = false) : drF l a b = false := by unfold drF; rw [h]; rfl
theorem drF_yes {l : List Int} {a b : Nat} (h : (isSetB l a && isSetB l b) = true) : drF l a b = (((cnt (sumF l a b) : Nat) : Int) == (cnt a : Int) * (cnt b : Int)) := by
  unfold drF; rw [h, Bool.true_and, Bool.eq_iff_iff, decide_eq_true_iff, beq_iff_eq]
  show cnt (sumF l a b) = cnt a * cnt b ↔ _
  constructor
  · intro e; rw [e]; simp
  · intro e; rw [← Int.natCast_mul] at e; exact Int.ofNat_inj.1 e
theorem cnt_mul (a b : Nat) : 0 ≤ (cnt a : Int) * (cnt b : Int) ∧ (cnt a : Int) * (cnt b : Int) ≤ 576 := by
  have h1 := cnt_le a
  have h2 := cnt_le b
  have := Nat.mul_le_mul h1 h2
  rw [← Int.natCast_mul]; omega
def tilF (l : List Int) (a b : Int) : Bool := drF l a b && decide (sumF l a.toNat b.toNat = fullN l)
theorem tilF_no {l : List Int} {a b : Int} (h : drF l a b = false) : tilF l a b = false := by unfold tilF; rw [h]; rfl
theorem tilF_yes {l : List Int} {a b : Nat} (h : drF l a b = true) : tilF l a b = (((sumF l a b : Nat) : Int) == (fullN l : Int)) := by
  unfold tilF; rw [h, Bool.true_and, Bool.eq_iff_iff, decide_eq_true_iff, beq_iff_eq]
  show sumF l a b = fullN l ↔ _
  omega
theorem drF_sets {l : List Int} {a b : Int} (h : drF l a b = true) : (isSetB l a && isSetB l b) = true := by unfold drF at h; rw [Bool.and_eq_true] at h; exact h.1

theorem IsDirect_any (v : Value) (l : List Int) (a b : Int) (w : World) (h : Ints w v l) :
    Calls Try.prog 144 #[.agg #[v], .int .i64 a, .int .i64 b] w fun e w' => e = .returned (.bool (drF l a b)) ∧ Ext w w' := by
  obtain ⟨wb, hwb⟩ : ∃ wb, wb = w.alloc (.cells #[v] 30) := ⟨_, rfl⟩
  have hE0 := (Ext.refl w).alloc (.cells #[v] 30)
  have hb := box_cell w v 30
  rw [← hwb] at hE0 hb
  have hg : ∀ W, Ext wb W → Ints W v l := fun W hW => h.ext (hE0.trans hW)
  have hE := Ext.refl wb
  have Hsz : Hid (w.heap.size + 1 = wb.heap.size) := Lib.hid (by rw [hwb]; simp [go_sem])
  have Hwb := Lib.hid hwb
  clear hwb h
  have hbx := hb wb hE
  have har := areF_two l a b
  cases hs : (isSetB l a && isSetB l b)
  · have Hs := Lib.hid (drF_no hs)
    rw [hs] at har
    clear hs
    go_enter Try.func144, Try.ntmps144
    go_wp2_with fail
    rw [← Hwb.out]; try rw [Hsz.out]
    go_wp2_with (first | (go_at_call 138; refine Calls.mono (areSets_val _ _ _ _ _ (hg _ (by repeat (first | assumption | exact Ext.refl _ | (apply And.left; assumption) | apply Ext.drew | apply Ext.alloc))) (ints_two _ _ _ _) har) ?_; rintro e w' ⟨rfl, hE'⟩; replace hE := hE.trans (Ext.trans (by repeat (first | assumption | exact Ext.refl _ | (apply And.left; assumption) | apply Ext.drew | apply Ext.alloc)) hE'); clear hE'))
    go_ret
    exact ⟨ret_bool Hs.out.symm, hE0.trans hE⟩
  · obtain ⟨h1, h2⟩ := Bool.and_eq_true_iff.1 hs
    obtain ⟨a, rfl, -, ha, hgr⟩ := isSetB_nat h1
    obtain ⟨b, rfl, -, hb', -⟩ := isSetB_nat h2
    have Hs := Lib.hid (drF_yes hs)
    rw [hs] at har
    have Hgr := Lib.hid hgr
    have hsum := sumF_bd hgr a b
    obtain ⟨hm1, hm2⟩ := cnt_mul a b
    have q1 := fun W => bits_any (sumF l a b) hsum W
    have q2 := fun W => bits_any a ha W
    have q3 := fun W => bits_any b hb' W
    clear hs hgr h1 h2
    go_enter Try.func144, Try.ntmps144
    go_wp2_with fail
    rw [← Hwb.out]; try rw [Hsz.out]
    go_wp2_with (first | (go_at_call 138; refine Calls.mono (areSets_val _ _ _ _ _ (hg _ (by repeat (first | assumption | exact Ext.refl _ | (apply And.left; assumption) | apply Ext.drew | apply Ext.alloc))) (ints_two _ _ _ _) har) ?_; rintro e w' ⟨rfl, hE'⟩; replace hE := hE.trans (Ext.trans (by repeat (first | assumption | exact Ext.refl _ | (apply And.left; assumption) | apply Ext.drew | apply Ext.alloc)) hE'); clear hE') | (go_at_call 82; refine (sum_any _ _ _ _ _ (hg _ hE) (Hgr) (ha) (hb')).mono ?_; rintro e w' ⟨rfl, hE'⟩; replace hE := hE.trans hE'; clear hE') | (go_at_call 95; (first | (with_reducible refine Calls.mono (q1 _) ?_) | (with_reducible refine Calls.mono (q2 _) ?_) | (with_reducible refine Calls.mono (q3 _) ?_)); rintro e w' ⟨rfl, rfl⟩))
    go_ret
    exact ⟨ret_bool Hs.out.symm, hE0.trans hE⟩
theorem sIsDirect_any (v : Value) (l : List Int) (a b : Int) (w : World) (h : Ints w v l) :
    Calls Try.prog 132 #[.agg #[v], .int .i64 a, .int .i64 b] w fun e w' => e = .returned (.bool (drF l a b)) ∧ Ext w w' := by
  obtain ⟨wb, hwb⟩ : ∃ wb, wb = w.alloc (.cells #[v] 30) := ⟨_, rfl⟩
  have hE0 := (Ext.refl w).alloc (.cells #[v] 30)
  have hb := box_cell w v 30
  rw [← hwb] at hE0 hb
  have hg : ∀ W, Ext wb W → Ints W v l := fun W hW => h.ext (hE0.trans hW)
  have hE := Ext.refl wb
  have Hsz : Hid (w.heap.size + 1 = wb.heap.size) := Lib.hid (by rw [hwb]; simp [go_sem])
  have Hwb := Lib.hid hwb
  clear hwb h
  have hbx := hb wb hE
  cases h1 : isSetB l a
  · have Hs := Lib.hid (drF_no (l := l) (a := a) (b := b) (by rw [h1]; rfl))
    go_enter Try.func132, Try.ntmps132
    go_wp2_with fail
    rw [← Hwb.out]
    go_wp2_with (first | (go_at_call 107; refine (sIsSet_val _ _ _ _ (hg _ hE) (h1)).mono ?_; rintro e w' ⟨rfl, hE'⟩; replace hE := hE.trans hE'; clear hE'))
    go_ret
    exact ⟨ret_bool Hs.out.symm, hE0.trans hE⟩
  · cases h2 : isSetB l b
    · have Hs := Lib.hid (drF_no (l := l) (a := a) (b := b) (by rw [h1, h2]; rfl))
      have c1 := fun W (hW : Ext wb W) => sIsSet_val v l a W (hg W hW) h1
      have c2 := fun W (hW : Ext wb W) => sIsSet_val v l b W (hg W hW) h2
      go_enter Try.func132, Try.ntmps132
      go_wp2_with fail
      rw [← Hwb.out]
      go_wp2_with (first | (go_at_call 107; (first | (with_reducible refine Calls.mono (c1 _ hE) ?_) | (with_reducible refine Calls.mono (c2 _ hE) ?_)); rintro e w' ⟨rfl, hE'⟩; replace hE := hE.trans hE'; clear hE'))
      go_ret
      exact ⟨ret_bool Hs.out.symm, hE0.trans hE⟩
    · have c1 := fun W (hW : Ext wb W) => sIsSet_val v l a W (hg W hW) h1
      have c2 := fun W (hW : Ext wb W) => sIsSet_val v l b W (hg W hW) h2
      have hs : (isSetB l a && isSetB l b) = true := by rw [h1, h2]; rfl
      obtain ⟨a, rfl, -, ha, hgr⟩ := isSetB_nat h1
      obtain ⟨b, rfl, -, hb', -⟩ := isSetB_nat h2
      have Hs := Lib.hid (drF_yes hs)
      have Hgr := Lib.hid hgr
      have hsum := sumF_bd hgr a b
      obtain ⟨hm1, hm2⟩ := cnt_mul a b
      have q1 := fun W => l3Bits_any (sumF l a b) hsum W
      have q2 := fun W => l3Bits_any a ha W
      have q3 := fun W => l3Bits_any b hb' W
      clear hs hgr h1 h2
      go_enter Try.func132, Try.ntmps132
      go_wp2_with fail
      rw [← Hwb.out]
      go_wp2_with (first | (go_at_call 107; (first | (with_reducible refine Calls.mono (c1 _ hE) ?_) | (with_reducible refine Calls.mono (c2 _ hE) ?_)); rintro e w' ⟨rfl, hE'⟩; replace hE := hE.trans hE'; clear hE') | (go_at_call 67; refine (l4Sum_any _ _ _ _ _ (hg _ hE) (Hgr) (ha) (hb')).mono ?_; rintro e w' ⟨rfl, hE'⟩; replace hE := hE.trans hE'; clear hE') | (go_at_call 80; (first | (with_reducible refine Calls.mono (q1 _) ?_) | (with_reducible refine Calls.mono (q2 _) ?_) | (with_reducible refine Calls.mono (q3 _) ?_)); rintro e w' ⟨rfl, rfl⟩))
      go_ret
      exact ⟨ret_bool Hs.out.symm, hE0.trans hE⟩
theorem IsTiling_any (v : Value) (l : List Int) (a b : Int) (w : World) (h : Ints w v l) :
    Calls Try.prog 88 #[.agg #[v], .int .i64 a, .int .i64 b] w fun e w' => e = .returned (.bool (tilF l a b)) ∧ Ext w w' := by
  obtain ⟨wb, hwb⟩ : ∃ wb, wb = w.alloc (.cells #[v] 30) := ⟨_, rfl⟩
  have hE0 := (Ext.refl w).alloc (.cells #[v] 30)
  have hb := box_cell w v 30
  rw [← hwb] at hE0 hb
  have hg : ∀ W, Ext wb W → Ints W v l := fun W hW => h.ext (hE0.trans hW)
  have hE := Ext.refl wb
  have Hsz : Hid (w.heap.size + 1 = wb.heap.size) := Lib.hid (by rw [hwb]; simp [go_sem])
  have Hwb := Lib.hid hwb
  clear hwb h
  have kb := fun U => hb _ (lat_ext wb U)
  have cD := fun U => IsDirect_any v l a b (Lat wb U) (hg _ (lat_ext wb U))
  cases hd : drF l a b
  · have Hs := Lib.hid (tilF_no hd)
    rw [hd] at cD
    go_enter Try.func88, Try.ntmps88
    go_wp2_with fail
    rw [← Hwb.out]
    (refine wp_region_lat (wb) (by kernel_rfl) (by kernel_rfl) hE ?_); (repeat (go_big_quiet_step (first | (go_at_call 144; exact Calls.lat (cD _))))); (refine wpQuiet_nil ?_); (intro W hE'); (replace hE := lat_of hE'); (clear hE')
    go_wp2_with fail
    go_ret
    exact ⟨ret_bool Hs.out.symm, hE0.trans hE⟩
  · rw [hd] at cD
    obtain ⟨h1, h2⟩ := Bool.and_eq_true_iff.1 (drF_sets hd)
    obtain ⟨a, rfl, -, ha, hgr⟩ := isSetB_nat h1
    obtain ⟨b, rfl, -, hb', -⟩ := isSetB_nat h2
    have Hs := Lib.hid (tilF_yes hd)
    have Hgr := Lib.hid hgr
    clear hgr h1 h2 hd
    go_enter Try.func88, Try.ntmps88
    go_wp2_with fail
    rw [← Hwb.out]
    (refine wp_region_lat (wb) (by kernel_rfl) (by kernel_rfl) hE ?_); (repeat (go_big_quiet_step (first | (go_at_call 144; exact Calls.lat (cD _)) | (go_at_call 82; exact Calls.lat (sum_any _ _ _ _ _ (hg _ (lat_ext wb _)) (Hgr) (ha) (hb'))) | (go_at_call 145; exact Calls.lat (FullSet_grp _ _ _ (hg _ (lat_ext wb _)) (Hgr)))))); (refine wpQuiet_nil ?_); (intro W hE'); (replace hE := lat_of hE'); (clear hE')
    go_wp2_with fail
    go_ret
    exact ⟨ret_bool Hs.out.symm, hE0.trans hE⟩
theorem sIsTiling_any (v : Value) (l : List Int) (a b : Int) (w : World) (h : Ints w v l) :
    Calls Try.prog 73 #[.agg #[v], .int .i64 a, .int .i64 b] w fun e w' => e = .returned (.bool (tilF l a b)) ∧ Ext w w' := by
  obtain ⟨wb, hwb⟩ : ∃ wb, wb = w.alloc (.cells #[v] 30) := ⟨_, rfl⟩
  have hE0 := (Ext.refl w).alloc (.cells #[v] 30)
  have hb := box_cell w v 30
  rw [← hwb] at hE0 hb
  have hg : ∀ W, Ext wb W → Ints W v l := fun W hW => h.ext (hE0.trans hW)
  have hE := Ext.refl wb
  have Hsz : Hid (w.heap.size + 1 = wb.heap.size) := Lib.hid (by rw [hwb]; simp [go_sem])
  have Hwb := Lib.hid hwb
  clear hwb h
  have kb := fun U => hb _ (lat_ext wb U)
  have cD := fun U => sIsDirect_any v l a b (Lat wb U) (hg _ (lat_ext wb U))
  cases hd : drF l a b
  · have Hs := Lib.hid (tilF_no hd)
    rw [hd] at cD
    go_enter Try.func73, Try.ntmps73
    go_wp2_with fail
    rw [← Hwb.out]
    (refine wp_region_lat (wb) (by kernel_rfl) (by kernel_rfl) hE ?_); (repeat (go_big_quiet_step (first | (go_at_call 132; exact Calls.lat (cD _))))); (refine wpQuiet_nil ?_); (intro W hE'); (replace hE := lat_of hE'); (clear hE')
    go_wp2_with fail
    go_ret
    exact ⟨ret_bool Hs.out.symm, hE0.trans hE⟩
  · rw [hd] at cD
    obtain ⟨h1, h2⟩ := Bool.and_eq_true_iff.1 (drF_sets hd)
    obtain ⟨a, rfl, -, ha, hgr⟩ := isSetB_nat h1
    obtain ⟨b, rfl, -, hb', -⟩ := isSetB_nat h2
    have Hs := Lib.hid (tilF_yes hd)
    have Hgr := Lib.hid hgr
    have hob := ord_bd hgr
    have hs1 := ishl_one (n := ord l) (by omega)
    have hpw := pw_le (n := ord l) hob.2
    have hpw1 := pw_pos (ord l)
    have hwr : ((pw (ord l) : Nat) : Int) - 1 = ((fullN l : Nat) : Int) := by unfold fullN; omega
    clear hgr h1 h2 hd
    go_enter Try.func73, Try.ntmps73
    go_wp2_with fail
    rw [← Hwb.out]
    (refine wp_region_lat (wb) (by kernel_rfl) (by kernel_rfl) hE ?_); (repeat (go_big_quiet_step (first | (go_at_call 132; exact Calls.lat (cD _)) | (go_at_call 67; exact Calls.lat (l4Sum_any _ _ _ _ _ (hg _ (lat_ext wb _)) (Hgr) (ha) (hb'))) | (go_at_call 51; exact Calls.lat (l2Order_any _ _ _ (hg _ (lat_ext wb _)) (Hgr)))))); (refine wpQuiet_nil ?_); (intro W hE'); (replace hE := lat_of hE'); (clear hE')
    go_wp2_with fail
    go_ret
    exact ⟨ret_bool Hs.out.symm, hE0.trans hE⟩
def knI (l : List Int) (a b : Int) : Int := if fullB l a b then knF l a.toNat b.toNat else -1
theorem knI_no {l : List Int} {a b : Int} (h : fullB l a b = false) : knI l a b = -1 := by unfold knI; rw [h]; rfl
theorem knI_yes {l : List Int} {a b : Nat} (h : fullB l a b = true) : knI l a b = knF l a b := by unfold knI; rw [h]; rfl
theorem sKneserBound_any (v : Value) (l : List Int) (a b : Int) (w : World) (h : Ints w v l) :
    Calls Try.prog 66 #[.agg #[v], .int .i64 a, .int .i64 b] w fun e w' => e = .returned (.int .i64 (knI l a b)) ∧ Ext w w' := by
  cases hf : fullB l a b
  · rw [knI_no hf]; exact sKneserBound_no v l a b w h hf
  · have hf' := hf
    obtain ⟨m, n, rfl, rfl, -⟩ := fullB_nat hf
    rw [knI_yes hf']; exact sKneserBound_yes v l m n w h hf'
end Go.Zz

/- Graphs: connection sets, distances, diameters. -/
namespace Go.Zz
open Go.RowKit Go.Proofs
set_option maxHeartbeats 400000

--%call in 112 same in_any _ _ ({0}) ({1}) _
theorem in_any (a x : Nat) (ha : a < 2 ^ 24) (hx : x ≤ 64) (w : World) :
    Calls Try.prog 112 #[.int .i64 a, .int .i64 x] w fun e w' => e = .returned (.bool (a.testBit x)) ∧ w = w' := by
  have hsh := ishr_nat (a := a) (n := x) hx
  have hbt := bit_test' (a := a) (n := x) (by omega) hx
  go_enter Try.func112, Try.ntmps112
  go_wp2_with fail
  go_ret
  exact ⟨rfl, rfl⟩
theorem in_val (a x : Nat) (ha : a < 2 ^ 24) (hx : x ≤ 64) (w : World) {b : Bool} (hb : a.testBit x = b) :
    Calls Try.prog 112 #[.int .i64 a, .int .i64 x] w fun e w' => e = .returned (.bool b) ∧ w = w' := by
  subst hb; exact in_any a x ha hx w
--%call hasV 140 ext has_val _ _ _ _ ({0}) ({1})
theorem has_any (v : Value) (l : List Int) (x : Int) (w : World) (h : Ints w v l) :
    Calls Try.prog 140 #[.agg #[v], .int .i64 x] w fun e w' => e = .returned (.bool (hasB l x)) ∧ Ext w w' := by
  obtain ⟨wb, hwb⟩ : ∃ wb, wb = w.alloc (.cells #[v] 30) := ⟨_, rfl⟩
  have hE0 := (Ext.refl w).alloc (.cells #[v] 30)
  have hb := box_cell w v 30
  rw [← hwb] at hE0 hb
  have hg : ∀ W, Ext wb W → Ints W v l := fun W hW => h.ext (hE0.trans hW)
  have hE := Ext.refl wb
  have Hsz : Hid (w.heap.size + 1 = wb.heap.size) := Lib.hid (by rw [hwb]; simp [go_sem])
  have Hwb := Lib.hid hwb
  clear hwb h
  have ho := ordF_bd l
  go_enter Try.func140, Try.ntmps140
  go_wp2_with fail
  rw [← Hwb.out]
  go_wp2_with (first | (go_at_call 59; refine (OrderOf_any _ _ _ (hg _ hE)).mono ?_; rintro e w' ⟨rfl, hE'⟩; replace hE := hE.trans hE'; clear hE') | (go_at_call 99; refine (within_any _ _ _ _).mono ?_; rintro e w' ⟨rfl, rfl⟩))
  go_ret
  exact ⟨rfl, hE0.trans hE⟩
theorem has_val (v : Value) (l : List Int) (x : Int) (w : World) (h : Ints w v l) {b : Bool} (hb : hasB l x = b) :
    Calls Try.prog 140 #[.agg #[v], .int .i64 x] w fun e w' => e = .returned (.bool b) ∧ Ext w w' := by
  subst hb; exact has_any v l x w h
--%call sOrderOf 162 ext sOrderOf_any _ _ _ ({0})
theorem sOrderOf_any (v : Value) (l : List Int) (w : World) (h : Ints w v l) :
    Calls Try.prog 162 #[.agg #[v]] w fun e w' => e = .returned (.int .i64 (ordF l)) ∧ Ext w w' := by
  obtain ⟨wb, hwb⟩ : ∃ wb, wb = w.alloc (.cells #[v] 30) := ⟨_, rfl⟩
  have hE0 := (Ext.refl w).alloc (.cells #[v] 30)
  have hb := box_cell w v 30
  rw [← hwb] at hE0 hb
  have hg : ∀ W, Ext wb W → Ints W v l := fun W hW => h.ext (hE0.trans hW)
  have hE := Ext.refl wb
  have Hsz : Hid (w.heap.size + 1 = wb.heap.size) := Lib.hid (by rw [hwb]; simp [go_sem])
  have Hwb := Lib.hid hwb
  clear hwb h
  cases hgr : isGrp l
  · have Ho := Lib.hid (ordF_f hgr)
    go_enter Try.func162, Try.ntmps162
    go_wp2_with fail
    rw [← Hwb.out]
    go_wp2_with (first | (go_at_call 50; refine (sIsGroup_any _ _ _ (hg _ hE)).mono ?_; rintro e w' ⟨rfl, hE'⟩; replace hE := hE.trans hE'; clear hE'))
    go_ret
    exact ⟨ret_int Ho.out.symm, hE0.trans hE⟩
  · have Ho := Lib.hid (ordF_t hgr)
    have Hgr := Lib.hid hgr
    go_enter Try.func162, Try.ntmps162
    go_wp2_with fail
    rw [← Hwb.out]
    go_wp2_with (first | (go_at_call 50; refine (sIsGroup_any _ _ _ (hg _ hE)).mono ?_; rintro e w' ⟨rfl, hE'⟩; replace hE := hE.trans hE'; clear hE') | (go_at_call 51; refine (l2Order_any _ _ _ (hg _ hE) (Hgr)).mono ?_; rintro e w' ⟨rfl, hE'⟩; replace hE := hE.trans hE'; clear hE'))
    go_ret
    exact ⟨ret_int Ho.out.symm, hE0.trans hE⟩
--%call l2IsV 129 ext l2Is_val _ _ _ _ ({0}) ({1})
theorem l2Is_any (v : Value) (l : List Int) (x : Int) (w : World) (h : Ints w v l) :
    Calls Try.prog 129 #[.agg #[v], .int .i64 x] w fun e w' => e = .returned (.bool (hasB l x)) ∧ Ext w w' := by
  obtain ⟨wb, hwb⟩ : ∃ wb, wb = w.alloc (.cells #[v] 30) := ⟨_, rfl⟩
  have hE0 := (Ext.refl w).alloc (.cells #[v] 30)
  have hb := box_cell w v 30
  rw [← hwb] at hE0 hb
  have hg : ∀ W, Ext wb W → Ints W v l := fun W hW => h.ext (hE0.trans hW)
  have hE := Ext.refl wb
  have Hsz : Hid (w.heap.size + 1 = wb.heap.size) := Lib.hid (by rw [hwb]; simp [go_sem])
  have Hwb := Lib.hid hwb
  clear hwb h
  have ho := ordF_bd l
  by_cases h0 : 0 ≤ x
  · by_cases h1 : x < ordF l
    · have Hh : Hid (hasB l x = true) := Lib.hid (inB_t.2 (by omega))
      go_enter Try.func129, Try.ntmps129
      go_wp2_with fail
      rw [← Hwb.out]
      go_wp2_with (first | (go_at_call 162; refine (sOrderOf_any _ _ _ (hg _ hE)).mono ?_; rintro e w' ⟨rfl, hE'⟩; replace hE := hE.trans hE'; clear hE'))
      go_ret
      exact ⟨ret_bool (by rw [Hh.out]), hE0.trans hE⟩
    · have Hh : Hid (hasB l x = false) := Lib.hid (inB_f.2 (by omega))
      have h1' : decide (x < ordF l) = false := by simp; omega
      go_enter Try.func129, Try.ntmps129
      go_wp2_with fail
      rw [← Hwb.out]
      go_wp2_with (first | (go_at_call 162; refine (sOrderOf_any _ _ _ (hg _ hE)).mono ?_; rintro e w' ⟨rfl, hE'⟩; replace hE := hE.trans hE'; clear hE'))
      go_ret
      exact ⟨ret_bool (by rw [Hh.out]), hE0.trans hE⟩
  · have Hh : Hid (hasB l x = false) := Lib.hid (inB_f.2 (by omega))
    have h0' : decide (0 ≤ x) = false := by simp; omega
    go_enter Try.func129, Try.ntmps129
    go_wp2_with fail
    rw [← Hwb.out]
    go_wp2_with (first | (go_at_call 162; refine (sOrderOf_any _ _ _ (hg _ hE)).mono ?_; rintro e w' ⟨rfl, hE'⟩; replace hE := hE.trans hE'; clear hE'))
    go_ret
    exact ⟨ret_bool (by rw [Hh.out]), hE0.trans hE⟩
theorem l2Is_val (v : Value) (l : List Int) (x : Int) (w : World) (h : Ints w v l) {b : Bool} (hb : hasB l x = b) :
    Calls Try.prog 129 #[.agg #[v], .int .i64 x] w fun e w' => e = .returned (.bool b) ∧ Ext w w' := by
  subst hb; exact l2Is_any v l x w h

theorem bit_zero_t {n : Nat} (h2 : n < 2 ^ 24) (h : n.testBit 0 = true) : iand (n : Int) 1 = 1 := by
  rw [Nat.testBit_zero] at h; rw [iand_one (by omega), of_decide_eq_true h]; rfl
theorem bit_zero_f {n : Nat} (h2 : n < 2 ^ 24) (h : n.testBit 0 = false) : iand (n : Int) 1 = 0 := by
  rw [Nat.testBit_zero] at h; rw [iand_one (by omega)]; have := of_decide_eq_false h; have h3 : n % 2 = 0 := by omega
  rw [h3]; rfl

end Go.Zz
