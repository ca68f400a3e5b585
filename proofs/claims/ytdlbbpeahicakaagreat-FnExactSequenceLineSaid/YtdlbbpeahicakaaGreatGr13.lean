/- Claims of sums: stabilizers, pairs of Kneser's bound. -/
import Derived.Test.YtdlbbpeahicakaaGreatGr7
import Derived.Test.YtdlbbpeahicakaaGreatGr12
namespace Go.Zz
open Go.RowKit Go.Proofs
set_option maxHeartbeats 2000000
set_option maxRecDepth 20000

/-- the elements below k that shift a set onto itself -/
def stabTo (l : List Int) (a k : Nat) : Nat := bset ((List.range k).filter (fun x => decide (shiftF l a x = a)))
theorem stabTo_yes {l : List Int} {a k : Nat} (h : shiftF l a k = a) : stabTo l a (k + 1) = stabTo l a k ||| 2 ^ k := by
  unfold stabTo; rw [List.range_succ, List.filter_append]; simp only [List.filter_cons, List.filter_nil, h, decide_true, if_true]; exact bset_snoc _ _
theorem stabTo_no {l : List Int} {a k : Nat} (h : ¬ shiftF l a k = a) : stabTo l a (k + 1) = stabTo l a k := by
  unfold stabTo; rw [List.range_succ, List.filter_append]; simp [h]
theorem stabTo_lt (l : List Int) (a k : Nat) : stabTo l a k < 2 ^ k := bset_lt fun _ hx => List.mem_range.1 (List.mem_filter.1 hx).1
def stabF (l : List Int) (a : Nat) : Nat := stabTo l a (ord l)
theorem stabF_lt (l : List Int) (a : Nat) : stabF l a < 2 ^ ord l := stabTo_lt l a _
def fullB (l : List Int) (a b : Int) : Bool := isSetB l a && isSetB l b && !(a == 0) && !(b == 0)
theorem fullB_set {l : List Int} {a b : Int} (h : (isSetB l a && isSetB l b) = false) : fullB l a b = false := by unfold fullB; rw [h]; rfl
theorem fullB_nat {l : List Int} {a b : Int} (h : fullB l a b = true) : ∃ m n : Nat, a = m ∧ b = n ∧ m ≠ 0 ∧ n ≠ 0 ∧ m < 2 ^ ord l ∧ n < 2 ^ ord l ∧ m < 2 ^ 24 ∧ n < 2 ^ 24 ∧ isGrp l = true ∧ isSetB l a = true ∧ isSetB l b = true := by
  unfold fullB at h
  simp only [Bool.and_eq_true, Bool.not_eq_true', beq_eq_false_iff_ne] at h
  obtain ⟨⟨⟨h1, h2⟩, h3⟩, h4⟩ := h
  obtain ⟨m, rfl, a1, a2, hg⟩ := isSetB_nat h1
  obtain ⟨n, rfl, b1, b2, -⟩ := isSetB_nat h2
  exact ⟨m, n, rfl, rfl, by omega, by omega, a1, b1, a2, b2, hg, h1, h2⟩
theorem cnt_sum_ge {l : List Int} (h : isGrp l = true) {a b : Nat} (ha : a ≠ 0) (ha2 : a < 2 ^ ord l) (hb : b < 2 ^ ord l) : cnt b ≤ cnt (sumF l a b) := by
  obtain ⟨x, hx⟩ := bit_of_pos ha
  rw [← cnt_shift h hb x]
  refine cnt_mono fun i hi => ?_
  obtain ⟨y, hy, by_, rfl⟩ := testBit_shiftF.1 hi
  exact testBit_sumF.2 ⟨x, y, Nat.lt_of_lt_of_le (bit_lt ha2 hx) (ord_bd h).2, hx, hy, by_, rfl⟩

theorem StabilizerOf_nat (v : Value) (l : List Int) (a : Nat) (w : World) (h : Ints w v l) (hs : isSetB l a = true) :
    Calls Tryz.prog 81 #[.agg #[v], .int .i64 a] w fun e w' => e = .returned (.int .i64 (stabF l a : Nat)) ∧ Ext w w' := by
  obtain ⟨wb, hwb⟩ : ∃ wb, wb = w.alloc (.cells #[v] 27) := ⟨_, rfl⟩
  have hE0 := (Ext.refl w).alloc (.cells #[v] 27)
  have hb := box_cell w v 27
  rw [← hwb] at hE0 hb
  have hg : ∀ W, Ext wb W → Ints W v l := fun W hW => h.ext (hE0.trans hW)
  have hE := Ext.refl wb
  have Hsz : Hid (w.heap.size + 1 = wb.heap.size) := Lib.hid (by rw [hwb]; simp [go_sem])
  have Hwb := Lib.hid hwb
  clear hwb h
  obtain ⟨a', e1, -, ha2, hgr⟩ := isSetB_nat hs
  obtain rfl : a = a' := by omega
  have Hgr := Lib.hid hgr
  have hob := ord_bd hgr
  clear hgr e1
  go_enter Tryz.func81, Tryz.ntmps81
  go_wp2_with fail
  rw [← Hwb.out]
  go_wp2_with (first | (go_at_call 152; refine (IsSet_val _ _ _ _ (hg _ hE) (hs)).mono ?_; rintro e w' ⟨rfl, hE'⟩; replace hE := hE.trans hE'; clear hE') | (go_at_call 157; refine (OrderOf_grp _ _ _ (hg _ hE) (Hgr)).mono ?_; rintro e w' ⟨rfl, hE'⟩; replace hE := hE.trans hE'; clear hE'))
  clear hs
  go_loopw [5, 13] (fun ov xv wr => ∃ k : Nat, k ≤ ord l ∧ xv = .int .i64 k ∧ ov = .int .i64 (stabTo l a k : Nat) ∧ Ext wb wr) (fun _ x _ => ord l - (intOf x).toNat)
  case atStart => exact ⟨0, by omega, rfl, rfl, hE⟩
  case round =>
    clear hE
    obtain ⟨k, hk, rfl, rfl, hE⟩ := hrel
    have hbx := hb _ hE
    by_cases hlt : k < ord l
    · have hst : stabTo l a k < 2 ^ 24 := Nat.lt_of_lt_of_le (stabTo_lt l a k) (Nat.pow_le_pow_right (by omega) (by omega))
      have hsf := shiftF_bd Hgr.out a k
      have hs1 := ishl_one (n := k) (by omega)
      have hs2 := ior_pw hst (show k < 24 by omega)
      by_cases hq : shiftF l a k = a
      · have Hn := Lib.hid (stabTo_yes hq)
        have hqi : ((shiftF l a k : Int) == (a : Int)) = true := by rw [hq]; simp
        clear hq
        go_wp2_with (first | (go_at_call 166; refine (shift_any _ _ _ _ _ (hg _ hE) (Hgr) (ha2) ((by omega))).mono ?_; rintro e w' ⟨rfl, hE'⟩; replace hE := hE.trans hE'; clear hE'))
        go_roundw
        case rel => exact ⟨k + 1, by omega, by go_num, by rw [Hn.out], hE⟩
        case measure => (simp [intOf]; omega)
      · have Hn := Lib.hid (stabTo_no hq)
        have hqi : ((shiftF l a k : Int) == (a : Int)) = false := by simp; omega
        clear hq
        go_wp2_with (first | (go_at_call 166; refine (shift_any _ _ _ _ _ (hg _ hE) (Hgr) (ha2) ((by omega))).mono ?_; rintro e w' ⟨rfl, hE'⟩; replace hE := hE.trans hE'; clear hE'))
        go_roundw
        case rel => exact ⟨k + 1, by omega, by go_num, by rw [Hn.out], hE⟩
        case measure => (simp [intOf]; omega)
    · have hkl : k = ord l := by omega
      subst hkl
      go_wp2_with fail
      go_ret
      exact ⟨rfl, hE0.trans hE⟩
--%call l6Stabilizer 117 ext l6Stabilizer_any _ _ _ _ ({0}) ({1}) ({2})
theorem l6Stabilizer_any (v : Value) (l : List Int) (a : Nat) (w : World) (h : Ints w v l) (Hgr : Hid (isGrp l = true)) (ha2 : a < 2 ^ 24) :
    Calls Tryz.prog 117 #[.agg #[v], .int .i64 a] w fun e w' => e = .returned (.int .i64 (stabF l a : Nat)) ∧ Ext w w' := by
  obtain ⟨wb, hwb⟩ : ∃ wb, wb = w.alloc (.cells #[v] 27) := ⟨_, rfl⟩
  have hE0 := (Ext.refl w).alloc (.cells #[v] 27)
  have hb := box_cell w v 27
  rw [← hwb] at hE0 hb
  have hg : ∀ W, Ext wb W → Ints W v l := fun W hW => h.ext (hE0.trans hW)
  have hE := Ext.refl wb
  have Hsz : Hid (w.heap.size + 1 = wb.heap.size) := Lib.hid (by rw [hwb]; simp [go_sem])
  have Hwb := Lib.hid hwb
  clear hwb h
  have hob := ord_bd Hgr.out
  go_enter Tryz.func117, Tryz.ntmps117
  go_wp2_with fail
  rw [← Hwb.out]
  go_loopw [5, 6] (fun ov xv wr => ∃ k : Nat, k ≤ ord l ∧ xv = .int .i64 k ∧ ov = .int .i64 (stabTo l a k : Nat) ∧ Ext wb wr) (fun _ x _ => ord l - (intOf x).toNat)
  case atStart => exact ⟨0, by omega, rfl, rfl, hE⟩
  case round =>
    clear hE
    obtain ⟨k, hk, rfl, rfl, hE⟩ := hrel
    have hbx := hb _ hE
    by_cases hlt : k < ord l
    · have hst : stabTo l a k < 2 ^ 24 := Nat.lt_of_lt_of_le (stabTo_lt l a k) (Nat.pow_le_pow_right (by omega) (by omega))
      have hsf := shiftF_bd Hgr.out a k
      have hs1 := ishl_one (n := k) (by omega)
      have hs2 := ior_pw hst (show k < 24 by omega)
      by_cases hq : shiftF l a k = a
      · have Hn := Lib.hid (stabTo_yes hq)
        have hqi : ((shiftF l a k : Int) == (a : Int)) = true := by rw [hq]; simp
        clear hq
        go_wp2_with (first | (go_at_call 59; refine (l2Order_any _ _ _ (hg _ hE) (Hgr)).mono ?_; rintro e w' ⟨rfl, hE'⟩; replace hE := hE.trans hE'; clear hE') | (go_at_call 143; refine (l3Shift_any _ _ _ _ _ (hg _ hE) (Hgr) (ha2) ((by omega))).mono ?_; rintro e w' ⟨rfl, hE'⟩; replace hE := hE.trans hE'; clear hE'))
        go_roundw
        case rel => exact ⟨k + 1, by omega, by go_num, by rw [Hn.out], hE⟩
        case measure => (simp [intOf]; omega)
      · have Hn := Lib.hid (stabTo_no hq)
        have hqi : ((shiftF l a k : Int) == (a : Int)) = false := by simp; omega
        clear hq
        go_wp2_with (first | (go_at_call 59; refine (l2Order_any _ _ _ (hg _ hE) (Hgr)).mono ?_; rintro e w' ⟨rfl, hE'⟩; replace hE := hE.trans hE'; clear hE') | (go_at_call 143; refine (l3Shift_any _ _ _ _ _ (hg _ hE) (Hgr) (ha2) ((by omega))).mono ?_; rintro e w' ⟨rfl, hE'⟩; replace hE := hE.trans hE'; clear hE'))
        go_roundw
        case rel => exact ⟨k + 1, by omega, by go_num, by rw [Hn.out], hE⟩
        case measure => (simp [intOf]; omega)
    · have hkl : k = ord l := by omega
      subst hkl
      go_wp2_with (first | (go_at_call 59; refine (l2Order_any _ _ _ (hg _ hE) (Hgr)).mono ?_; rintro e w' ⟨rfl, hE'⟩; replace hE := hE.trans hE'; clear hE'))
      go_ret
      exact ⟨rfl, hE0.trans hE⟩
theorem areFull_any (v : Value) (l : List Int) (a b : Int) (w : World) (h : Ints w v l) :
    Calls Tryz.prog 78 #[.agg #[v], .int .i64 a, .int .i64 b] w fun e w' => e = .returned (.bool (fullB l a b)) ∧ Ext w w' := by
  obtain ⟨wb, hwb⟩ : ∃ wb, wb = w.alloc (.cells #[v] 27) := ⟨_, rfl⟩
  have hE0 := (Ext.refl w).alloc (.cells #[v] 27)
  have hb := box_cell w v 27
  rw [← hwb] at hE0 hb
  have hg : ∀ W, Ext wb W → Ints W v l := fun W hW => h.ext (hE0.trans hW)
  have hE := Ext.refl wb
  have Hsz : Hid (w.heap.size + 1 = wb.heap.size) := Lib.hid (by rw [hwb]; simp [go_sem])
  have Hwb := Lib.hid hwb
  clear hwb h
  have hbx := hb wb hE
  have har := areF_two l a b
  cases hs : (isSetB l a && isSetB l b)
  · have Hs := Lib.hid (fullB_set hs)
    rw [hs] at har
    clear hs
    go_enter Tryz.func78, Tryz.ntmps78
    go_wp2_with fail
    rw [← Hwb.out]; try rw [Hsz.out]
    go_wp2_with (first | (go_at_call 133; refine Calls.mono (areSets_val _ _ _ _ _ (hg _ (by repeat (first | assumption | exact Ext.refl _ | (apply And.left; assumption) | apply Ext.drew | apply Ext.alloc))) (ints_two _ _ _ _) har) ?_; rintro e w' ⟨rfl, hE'⟩; replace hE := hE.trans (Ext.trans (by repeat (first | assumption | exact Ext.refl _ | (apply And.left; assumption) | apply Ext.drew | apply Ext.alloc)) hE'); clear hE'))
    go_ret
    exact ⟨ret_bool Hs.out.symm, hE0.trans hE⟩
  · have Hs : Hid (fullB l a b = (!(a == 0) && !(b == 0))) := Lib.hid (by unfold fullB; rw [hs]; rfl)
    rw [hs] at har
    clear hs
    cases ha : (a == 0) <;> cases hb0 : (b == 0)
    all_goals
      have ha' : (a != 0) = !(a == 0) := rfl
      have hb' : (b != 0) = !(b == 0) := rfl
      rw [ha] at ha'
      rw [hb0] at hb'
      rw [ha, hb0] at Hs
      go_enter Tryz.func78, Tryz.ntmps78
      go_wp2_with fail
      rw [← Hwb.out]; try rw [Hsz.out]
      go_wp2_with (first | (go_at_call 133; refine Calls.mono (areSets_val _ _ _ _ _ (hg _ (by repeat (first | assumption | exact Ext.refl _ | (apply And.left; assumption) | apply Ext.drew | apply Ext.alloc))) (ints_two _ _ _ _) har) ?_; rintro e w' ⟨rfl, hE'⟩; replace hE := hE.trans (Ext.trans (by repeat (first | assumption | exact Ext.refl _ | (apply And.left; assumption) | apply Ext.drew | apply Ext.alloc)) hE'); clear hE'))
      go_ret
      exact ⟨ret_bool (by rw [Hs.out]; simp_all), hE0.trans hE⟩
/-- the bound of Kneser, as the reference writes it -/
def knF (l : List Int) (a b : Nat) : Int := (cnt (sumF l a (stabF l (sumF l a b))) : Int) + cnt (sumF l b (stabF l (sumF l a b))) - cnt (stabF l (sumF l a b))
theorem knF_pos {l : List Int} (h : isGrp l = true) {a b : Nat} (ha : a ≠ 0) (ha2 : a < 2 ^ ord l) : 0 ≤ knF l a b := by
  have := cnt_sum_ge h ha ha2 (stabF_lt l (sumF l a b))
  unfold knF; omega
theorem sKneserBound_no (v : Value) (l : List Int) (a b : Int) (w : World) (h : Ints w v l) (hf : fullB l a b = false) :
    Calls Tryz.prog 37 #[.agg #[v], .int .i64 a, .int .i64 b] w fun e w' => e = .returned (.int .i64 (-1)) ∧ Ext w w' := by
  obtain ⟨wb, hwb⟩ : ∃ wb, wb = w.alloc (.cells #[v] 27) := ⟨_, rfl⟩
  have hE0 := (Ext.refl w).alloc (.cells #[v] 27)
  have hb := box_cell w v 27
  rw [← hwb] at hE0 hb
  have hg : ∀ W, Ext wb W → Ints W v l := fun W hW => h.ext (hE0.trans hW)
  have hE := Ext.refl wb
  have Hsz : Hid (w.heap.size + 1 = wb.heap.size) := Lib.hid (by rw [hwb]; simp [go_sem])
  have Hwb := Lib.hid hwb
  clear hwb h
  have hbx := hb wb hE
  cases h1 : isSetB l a
  ·
    go_enter Tryz.func37, Tryz.ntmps37
    go_wp2_with fail
    rw [← Hwb.out]
    go_wp2_with (first | (go_at_call 126; refine (sIsSet_val _ _ _ _ (hg _ hE) (h1)).mono ?_; rintro e w' ⟨rfl, hE'⟩; replace hE := hE.trans hE'; clear hE'))
    go_ret
    exact ⟨rfl, hE0.trans hE⟩
  · cases h2 : isSetB l b
    ·
      go_enter Tryz.func37, Tryz.ntmps37
      go_wp2_with fail
      rw [← Hwb.out]
      go_wp2_with (first | (go_at_call 126; (first | (with_reducible refine Calls.mono (sIsSet_val _ _ a _ (hg _ hE) h1) ?_) | (with_reducible refine Calls.mono (sIsSet_val _ _ b _ (hg _ hE) h2) ?_)); rintro e w' ⟨rfl, hE'⟩; replace hE := hE.trans hE'; clear hE'))
      go_ret
      exact ⟨rfl, hE0.trans hE⟩
    · cases h3 : (a == 0)
      · have h4 : (b == 0) = true := by unfold fullB at hf; rw [h1, h2, h3] at hf; simpa using hf
        clear hf
        ·
          go_enter Tryz.func37, Tryz.ntmps37
          go_wp2_with fail
          rw [← Hwb.out]
          go_wp2_with (first | (go_at_call 126; (first | (with_reducible refine Calls.mono (sIsSet_val _ _ a _ (hg _ hE) h1) ?_) | (with_reducible refine Calls.mono (sIsSet_val _ _ b _ (hg _ hE) h2) ?_)); rintro e w' ⟨rfl, hE'⟩; replace hE := hE.trans hE'; clear hE'))
          go_ret
          exact ⟨rfl, hE0.trans hE⟩
      · clear hf
        ·
          go_enter Tryz.func37, Tryz.ntmps37
          go_wp2_with fail
          rw [← Hwb.out]
          go_wp2_with (first | (go_at_call 126; (first | (with_reducible refine Calls.mono (sIsSet_val _ _ a _ (hg _ hE) h1) ?_) | (with_reducible refine Calls.mono (sIsSet_val _ _ b _ (hg _ hE) h2) ?_)); rintro e w' ⟨rfl, hE'⟩; replace hE := hE.trans hE'; clear hE'))
          go_ret
          exact ⟨rfl, hE0.trans hE⟩
theorem sKneserBound_yes (v : Value) (l : List Int) (a b : Nat) (w : World) (h : Ints w v l) (hf : fullB l a b = true) :
    Calls Tryz.prog 37 #[.agg #[v], .int .i64 a, .int .i64 b] w fun e w' => e = .returned (.int .i64 (knF l a b)) ∧ Ext w w' := by
  obtain ⟨wb, hwb⟩ : ∃ wb, wb = w.alloc (.cells #[v] 27) := ⟨_, rfl⟩
  have hE0 := (Ext.refl w).alloc (.cells #[v] 27)
  have hb := box_cell w v 27
  rw [← hwb] at hE0 hb
  have hg : ∀ W, Ext wb W → Ints W v l := fun W hW => h.ext (hE0.trans hW)
  have hE := Ext.refl wb
  have Hsz : Hid (w.heap.size + 1 = wb.heap.size) := Lib.hid (by rw [hwb]; simp [go_sem])
  have Hwb := Lib.hid hwb
  clear hwb h
  have hbx := fun U => hb _ (lat_ext wb U)
  have hbx1 := hb wb hE
  obtain ⟨m, n, e1, e2, h3, h4, -, -, ha, hb', hgr, h1, h2⟩ := fullB_nat hf
  obtain rfl : a = m := by omega
  obtain rfl : b = n := by omega
  have Hgr := Lib.hid hgr
  have hst : stabF l (sumF l a b) < 2 ^ 24 := Nat.lt_of_lt_of_le (stabF_lt l _) (pow_ord hgr)
  have hsum := sumF_bd hgr a b
  have q1 := sumF_bd hgr a (stabF l (sumF l a b))
  have q2 := sumF_bd hgr b (stabF l (sumF l a b))
  have r1 := cnt_le (sumF l a (stabF l (sumF l a b)))
  have r2 := cnt_le (sumF l b (stabF l (sumF l a b)))
  have r3 := cnt_le (stabF l (sumF l a b))
  have h3' : ((a : Int) == 0) = false := by simp; omega
  have h4' : ((b : Int) == 0) = false := by simp; omega
  have w1 : IntKind.i64.wrap ((cnt (sumF l a (stabF l (sumF l a b))) : Int) + (cnt (sumF l b (stabF l (sumF l a b))) : Int)) = (cnt (sumF l a (stabF l (sumF l a b))) : Int) + (cnt (sumF l b (stabF l (sumF l a b))) : Int) := IntWalk.i64_in _ (by omega)
  have w2 : IntKind.i64.wrap ((cnt (sumF l a (stabF l (sumF l a b))) : Int) + (cnt (sumF l b (stabF l (sumF l a b))) : Int) - (cnt (stabF l (sumF l a b)) : Int)) = (cnt (sumF l a (stabF l (sumF l a b))) : Int) + (cnt (sumF l b (stabF l (sumF l a b))) : Int) - (cnt (stabF l (sumF l a b)) : Int) := IntWalk.i64_in _ (by omega)
  clear hgr e1 e2 hf
  go_enter Tryz.func37, Tryz.ntmps37
  go_wp2_with fail
  rw [← Hwb.out]
  go_wp2_with (first | (go_at_call 126; (first | (with_reducible refine Calls.mono (sIsSet_val _ _ (a : Int) _ (hg _ hE) h1) ?_) | (with_reducible refine Calls.mono (sIsSet_val _ _ (b : Int) _ (hg _ hE) h2) ?_)); rintro e w' ⟨rfl, hE'⟩; replace hE := hE.trans hE'; clear hE'))
  (refine wp_region_lat (wb) (by kernel_rfl) (by kernel_rfl) hE ?_); (repeat (go_big_quiet_step (first | (go_at_call 84; exact Calls.lat (l4Sum_any _ _ _ _ _ (hg _ (lat_ext wb _)) (Hgr) (ha) (hb'))) | (go_at_call 117; exact Calls.lat (l6Stabilizer_any _ _ _ _ (hg _ (lat_ext wb _)) (Hgr) (hsum)))))); (refine wpQuiet_nil ?_); (intro W hE'); (replace hE := lat_of hE'); (clear hE')
  go_wp2_with fail
  (refine wp_region_lat (wb) (by kernel_rfl) (by kernel_rfl) hE ?_); (repeat (go_big_quiet_step (first | (go_at_call 84; exact Calls.lat (l4Sum_any _ _ _ _ _ (hg _ (lat_ext wb _)) (Hgr) (ha) (hst))) | (go_at_call 84; exact Calls.lat (l4Sum_any _ _ _ _ _ (hg _ (lat_ext wb _)) (Hgr) (hb') (hst))) | (go_at_call 125; (first | (with_reducible exact Calls.lat_same (l3Bits_any _ q1 _)) | (with_reducible exact Calls.lat_same (l3Bits_any _ q2 _)) | (with_reducible exact Calls.lat_same (l3Bits_any _ hst _))))))); (refine wpQuiet_nil ?_); (intro W hE'); (replace hE := lat_of hE'); (clear hE')
  go_wp2_with fail
  go_ret
  exact ⟨ret_int (by unfold knF; rfl), hE0.trans hE⟩
def kpH (l : List Int) (a b : Nat) : Nat := stabF l (sumF l a b)
theorem sKneserPair_no (v : Value) (l : List Int) (a b : Int) (w : World) (h : Ints w v l) (hf : fullB l a b = false) :
    Calls Tryz.prog 82 #[.agg #[v], .int .i64 a, .int .i64 b] w fun e w' => e = .returned (.tuple #[.int .i64 0, .int .i64 0, .int .i64 0, .bool false]) ∧ Ext w w' := by
  obtain ⟨wb, hwb⟩ : ∃ wb, wb = w.alloc (.cells #[v] 27) := ⟨_, rfl⟩
  have hE0 := (Ext.refl w).alloc (.cells #[v] 27)
  have hb := box_cell w v 27
  rw [← hwb] at hE0 hb
  have hg : ∀ W, Ext wb W → Ints W v l := fun W hW => h.ext (hE0.trans hW)
  have hE := Ext.refl wb
  have Hsz : Hid (w.heap.size + 1 = wb.heap.size) := Lib.hid (by rw [hwb]; simp [go_sem])
  have Hwb := Lib.hid hwb
  clear hwb h
  go_enter Tryz.func82, Tryz.ntmps82
  go_wp2_with fail
  rw [← Hwb.out]
  go_wp2_with (first | (go_at_call 37; refine (sKneserBound_no _ _ _ _ _ (hg _ hE) hf).mono ?_; rintro e w' ⟨rfl, hE'⟩; replace hE := hE.trans hE'; clear hE'))
  exact bodyPost_ret (v := .tuple #[.int .i64 0, .int .i64 0, .int .i64 0, .bool false]) (by simp [results, Tryz.results82, go_sem]) rfl ⟨rfl, hE0.trans hE⟩
theorem sKneserPair_yes (v : Value) (l : List Int) (a b : Nat) (w : World) (h : Ints w v l) (hf : fullB l a b = true) :
    Calls Tryz.prog 82 #[.agg #[v], .int .i64 a, .int .i64 b] w fun e w' => e = .returned (.tuple #[.int .i64 (kpH l a b : Nat), .int .i64 (sumF l a (kpH l a b) : Nat), .int .i64 (sumF l b (kpH l a b) : Nat), .bool true]) ∧ Ext w w' := by
  obtain ⟨wb, hwb⟩ : ∃ wb, wb = w.alloc (.cells #[v] 27) := ⟨_, rfl⟩
  have hE0 := (Ext.refl w).alloc (.cells #[v] 27)
  have hb := box_cell w v 27
  rw [← hwb] at hE0 hb
  have hg : ∀ W, Ext wb W → Ints W v l := fun W hW => h.ext (hE0.trans hW)
  have hE := Ext.refl wb
  have Hsz : Hid (w.heap.size + 1 = wb.heap.size) := Lib.hid (by rw [hwb]; simp [go_sem])
  have Hwb := Lib.hid hwb
  clear hwb h
  have hbx := fun U => hb _ (lat_ext wb U)
  obtain ⟨m, n, e1, e2, h3, h4, a1, -, ha, hb', hgr, -, -⟩ := fullB_nat hf
  obtain rfl : a = m := by omega
  obtain rfl : b = n := by omega
  have hk := knF_pos (b := b) hgr h3 a1
  have Hgr := Lib.hid hgr
  have hst : kpH l a b < 2 ^ 24 := Nat.lt_of_lt_of_le (stabF_lt l _) (pow_ord hgr)
  have hsum := sumF_bd hgr a b
  have hkp : stabF l (sumF l a b) = kpH l a b := rfl
  have Hkp := Lib.hid hkp
  clear hgr e1 e2 hkp h3 h4
  go_enter Tryz.func82, Tryz.ntmps82
  go_wp2_with fail
  rw [← Hwb.out]
  go_wp2_with (first | (go_at_call 37; refine (sKneserBound_yes _ _ _ _ _ (hg _ hE) hf).mono ?_; rintro e w' ⟨rfl, hE'⟩; replace hE := hE.trans hE'; clear hE'))
  (refine wp_region_lat (wb) (by kernel_rfl) (by kernel_rfl) hE ?_); (repeat (go_big_quiet_step (first | (go_at_call 84; exact Calls.lat (l4Sum_any _ _ _ _ _ (hg _ (lat_ext wb _)) (Hgr) (ha) (hb'))) | (go_at_call 117; exact Calls.lat (l6Stabilizer_any _ _ _ _ (hg _ (lat_ext wb _)) (Hgr) (hsum)))))); (refine wpQuiet_nil ?_); (intro W hE'); (replace hE := lat_of hE'); (clear hE')
  rw [Hkp.out]
  go_wp2_with fail
  (refine wp_region_lat (wb) (by kernel_rfl) (by kernel_rfl) hE ?_); (repeat (go_big_quiet_step (first | (go_at_call 84; exact Calls.lat (l4Sum_any _ _ _ _ _ (hg _ (lat_ext wb _)) (Hgr) (ha) (hst))) | (go_at_call 84; exact Calls.lat (l4Sum_any _ _ _ _ _ (hg _ (lat_ext wb _)) (Hgr) (hb') (hst)))))); (refine wpQuiet_nil ?_); (intro W hE'); (replace hE := lat_of hE'); (clear hE')
  go_wp2_with fail
  exact bodyPost_ret (v := .tuple #[.int .i64 (kpH l a b : Nat), .int .i64 (sumF l a (kpH l a b) : Nat), .int .i64 (sumF l b (kpH l a b) : Nat), .bool true]) (by simp [results, Tryz.results82, go_sem]) rfl ⟨rfl, hE0.trans hE⟩
def csK (l : List Int) (a b : Int) : Int := if fullB l a b then 1 else 0
def csA (l : List Int) (a b : Int) : Int := if fullB l a b then a else 0
def csB (l : List Int) (a b : Int) : Int := if fullB l a b then b else 0
def csS (l : List Int) (a b : Int) : Int := if fullB l a b then (sumF l a.toNat b.toNat : Int) else 0
def csP (l : List Int) (a b : Int) : Int := if fullB l a b then (kpH l a.toNat b.toNat : Int) else 0
def csG (l : List Int) (a b : Int) : List Int := if fullB l a b then l else []
theorem cs_no {l : List Int} {a b : Int} (h : fullB l a b = false) : csK l a b = 0 ∧ csA l a b = 0 ∧ csB l a b = 0 ∧ csS l a b = 0 ∧ csP l a b = 0 ∧ csG l a b = [] := by
  unfold csK csA csB csS csP csG; rw [h]; exact ⟨rfl, rfl, rfl, rfl, rfl, rfl⟩
theorem cs_yes {l : List Int} {a b : Nat} (h : fullB l a b = true) : csK l a b = 1 ∧ csA l a b = a ∧ csB l a b = b ∧ csS l a b = (sumF l a b : Int) ∧ csP l a b = (kpH l a b : Int) ∧ csG l a b = l := by
  unfold csK csA csB csS csP csG; rw [h]; exact ⟨rfl, rfl, rfl, rfl, rfl, rfl⟩
theorem ClaimOfSum_any (v : Value) (l : List Int) (a b : Int) (w : World) (h : Ints w v l) :
    Calls Tryz.prog 14 #[.agg #[v], .int .i64 a, .int .i64 b] w fun e w' => ∃ v1 v2 v3 v4, e = .returned (.tuple #[CV (csK l a b) v1 v2 (csA l a b) (csB l a b) (csS l a b) (csP l a b) v3 v4 0, .bool (fullB l a b)]) ∧ Own4 w w' v1 v2 v3 v4 (csG l a b) [] [] [] ∧ Ext w w' := by
  obtain ⟨wb, hwb⟩ : ∃ wb, wb = w.alloc (.cells #[v] 27) := ⟨_, rfl⟩
  have hE0 := (Ext.refl w).alloc (.cells #[v] 27)
  have hb := box_cell w v 27
  rw [← hwb] at hE0 hb
  have hg : ∀ W, Ext wb W → Ints W v l := fun W hW => h.ext (hE0.trans hW)
  have hE := Ext.refl wb
  have Hsz : Hid (w.heap.size + 1 = wb.heap.size) := Lib.hid (by rw [hwb]; simp [go_sem])
  have Hwb := Lib.hid hwb
  clear hwb h
  obtain ⟨wc, hwc⟩ : ∃ wc, wc = wb.alloc (.cells #[.int .i64 0, .slice none 0 0, .slice none 0 0, .int .i64 0, .int .i64 0, .int .i64 0, .int .i64 0, .slice none 0 0, .slice none 0 0, .int .i64 0] 38) := ⟨_, rfl⟩
  have hBc : Blk wc wb.heap.size 38 #[.int .i64 0, .slice none 0 0, .slice none 0 0, .int .i64 0, .int .i64 0, .int .i64 0, .int .i64 0, .slice none 0 0, .slice none 0 0, .int .i64 0] := by rw [hwc]; exact Blk.new _ _ _
  have hRc : Res wc wb.heap.size 10 := hBc.res (by simp)
  have hAc : Ext wb wc := by rw [hwc]; exact hE.alloc _
  replace hE := Ext.refl wc
  have Hsz2 : Hid (wb.heap.size + 1 = wc.heap.size) := Lib.hid (by rw [hwc]; simp [go_sem])
  have Hwc := Lib.hid hwc
  clear hwc hBc
  have hgc : ∀ W, Ext wc W → Ints W v l := fun W hW => hg W (hAc.trans hW)
  have hbc : ∀ W, Ext wc W → W.cell? ⟨w.heap.size, 0, none⟩ = some v := fun W hW => hb W (hAc.trans hW)
  have hwc : wb.heap.size < wc.heap.size := by have := Hsz2.out; omega
  cases hf : fullB l a b
  · have Hs := Lib.hid (cs_no hf)
    go_enter Tryz.func14, Tryz.ntmps14
    go_wp2_with fail
    rw [← Hwb.out, ← Hwc.out]; rw [Hsz.out]
    refine (areFull_any _ _ _ _ _ (hgc _ hE)).mono ?_
    rw [hf]
    rintro e w1 ⟨rfl, hE1⟩
    have hr := hRc.ext hE1
    unfold Res at hr
    go_wp2_with fail
    exact bodyPost_ret (v := .tuple #[CV 0 (.slice none 0 0) (.slice none 0 0) 0 0 0 0 (.slice none 0 0) (.slice none 0 0) 0, .bool false]) (by simp [results, Tryz.results14, go_sem, hr, CV]) rfl ⟨_, _, _, _, by rw [Hs.out.1, Hs.out.2.1, Hs.out.2.2.1, Hs.out.2.2.2.1, Hs.out.2.2.2.2.1], by rw [Hs.out.2.2.2.2.2]; exact ⟨Own.nil _ _ _, Own.nil _ _ _, Own.nil _ _ _, Own.nil _ _ _, Apart.nil_left _, Apart.nil_left _, Apart.nil_left _, Apart.nil_left _, Apart.nil_left _, Apart.nil_left _⟩, hE0.trans (by (repeat (refine Ext.setCell ?_ (Nat.le_refl _) _)); exact hAc.trans hE1)⟩
  · have hf' := hf
    obtain ⟨m, n, rfl, rfl, -, -, -, -, ha, hb', hgr, -, -⟩ := fullB_nat hf
    have Hs := Lib.hid (cs_yes hf')
    have Hgr := Lib.hid hgr
    have hss : isSetB l ((sumF l m n : Nat) : Int) = true := isSetB_of hgr (sumF_lt (isGrp_ords hgr) m n)
    have hkp : stabF l (sumF l m n) = kpH l m n := rfl
    obtain ⟨a, rfl⟩ : ∃ a, a = m := ⟨_, rfl⟩
    obtain ⟨b, rfl⟩ : ∃ b, b = n := ⟨_, rfl⟩
    clear hgr
    go_enter Tryz.func14, Tryz.ntmps14
    go_wp2_with fail
    rw [← Hwb.out, ← Hwc.out]; rw [Hsz.out]
    refine (areFull_any _ _ _ _ _ (hgc _ hE)).mono ?_
    rw [hf]
    rintro e w1 ⟨rfl, hE1⟩
    have kb := hbc _ hE1
    go_wp2_with fail
    refine (sum_any _ _ _ _ _ (hgc _ hE1) Hgr ha hb').mono ?_
    rintro e w2 ⟨rfl, hE2⟩
    replace hE := hE1.trans hE2
    clear kb hf hf'
    go_wp2_with fail
    have hD := hE.drew
    first | (go_region_held3 (fun W => Ext (wb) W ∧ W.cell? ⟨w.heap.size, 0, none⟩ = some v ∧ (∀ i, i < 10 → W.cell? ⟨(wb).heap.size, i, none⟩ = some (At W ⟨(wb).heap.size, i, none⟩) ∧ W.frozen? ⟨(wb).heap.size, i, none⟩ = false)) (exact ⟨(by (repeat (refine Ext.setCell ?_ (Nat.le_refl _) _)); exact Ext.trans hAc (by repeat (first | assumption | exact Ext.refl _ | (apply And.left; assumption) | apply Ext.drew | apply Ext.alloc))), hb _ (by (repeat (refine Ext.setCell ?_ (Nat.le_refl _) _)); exact Ext.trans hAc (by repeat (first | assumption | exact Ext.refl _ | (apply And.left; assumption) | apply Ext.drew | apply Ext.alloc))), (by (repeat (refine Res.setCell ?_ _ _)); exact Res.ext hRc (by repeat (first | assumption | exact Ext.refl _ | (apply And.left; assumption) | apply Ext.drew | apply Ext.alloc)))⟩) (first | (go_at_call 80; ((with_reducible refine Calls.mono (copyGroup_any _ _ _ (hgc _ (by repeat (first | assumption | exact Ext.refl _ | (apply And.left; assumption) | apply Ext.drew | apply Ext.alloc)))) ?_); rintro e wH0 ⟨ao, c, rfl, hO, hX0⟩; have hH0 := Ext.trans (a := wc) (by repeat (first | assumption | exact Ext.refl _ | (apply And.left; assumption) | apply Ext.drew | apply Ext.alloc)) hX0)) | (go_at_call 81; ((with_reducible refine Calls.mono (StabilizerOf_nat _ _ _ _ (hgc _ (by repeat (first | assumption | exact Ext.refl _ | (apply And.left; assumption) | apply Ext.drew | apply Ext.alloc))) hss) ?_); rintro e wH1 ⟨rfl, hX1⟩; have hH1 := Ext.trans (a := wc) (by repeat (first | assumption | exact Ext.refl _ | (apply And.left; assumption) | apply Ext.drew | apply Ext.alloc)) hX1)))) | (fail "the region with a result")
    go_wp2_with fail
    have hr := hRc.ext hH1
    unfold Res at hr
    have hv := (hO.ext hX1).mono (show Ext wc _ by repeat (first | assumption | exact Ext.refl _ | (apply And.left; assumption) | apply Ext.drew | apply Ext.alloc))
    exact bodyPost_ret (v := .tuple #[CV 1 (.slice ao l.length c) (.slice none 0 0) (a : Int) (b : Int) (sumF l a b : Int) (kpH l a b : Int) (.slice none 0 0) (.slice none 0 0) 0, .bool true]) (by simp [results, Tryz.results14, go_sem, hr, CV]) rfl ⟨_, _, _, _, by rw [Hs.out.1, Hs.out.2.1, Hs.out.2.2.1, Hs.out.2.2.2.1, Hs.out.2.2.2.2.1], by rw [Hs.out.2.2.2.2.2]; exact ⟨(show Own 3 wc _ _ _ by (repeat (refine Own.setCell_below ?_ hwc _)); exact hv).mono (hE0.trans hAc), Own.nil _ _ _, Own.nil _ _ _, Own.nil _ _ _, Apart.nil_right _, Apart.nil_right _, Apart.nil_right _, Apart.nil_left _, Apart.nil_left _, Apart.nil_left _⟩, hE0.trans (by (repeat (refine Ext.setCell ?_ (Nat.le_refl _) _)); exact hAc.trans hH1)⟩
theorem sClaimOfSum_any (v : Value) (l : List Int) (a b : Int) (w : World) (h : Ints w v l) :
    Calls Tryz.prog 15 #[.agg #[v], .int .i64 a, .int .i64 b] w fun e w' => ∃ v1 v2 v3 v4, e = .returned (.tuple #[CV (csK l a b) v1 v2 (csA l a b) (csB l a b) (csS l a b) (csP l a b) v3 v4 0, .bool (fullB l a b)]) ∧ Own4 w w' v1 v2 v3 v4 (csG l a b) [] [] [] ∧ Ext w w' := by
  obtain ⟨wb, hwb⟩ : ∃ wb, wb = w.alloc (.cells #[v] 27) := ⟨_, rfl⟩
  have hE0 := (Ext.refl w).alloc (.cells #[v] 27)
  have hb := box_cell w v 27
  rw [← hwb] at hE0 hb
  have hg : ∀ W, Ext wb W → Ints W v l := fun W hW => h.ext (hE0.trans hW)
  have hE := Ext.refl wb
  have Hsz : Hid (w.heap.size + 1 = wb.heap.size) := Lib.hid (by rw [hwb]; simp [go_sem])
  have Hwb := Lib.hid hwb
  clear hwb h
  obtain ⟨wc, hwc⟩ : ∃ wc, wc = wb.alloc (.cells #[.int .i64 0, .slice none 0 0, .slice none 0 0, .int .i64 0, .int .i64 0, .int .i64 0, .int .i64 0, .slice none 0 0, .slice none 0 0, .int .i64 0] 38) := ⟨_, rfl⟩
  have hBc : Blk wc wb.heap.size 38 #[.int .i64 0, .slice none 0 0, .slice none 0 0, .int .i64 0, .int .i64 0, .int .i64 0, .int .i64 0, .slice none 0 0, .slice none 0 0, .int .i64 0] := by rw [hwc]; exact Blk.new _ _ _
  have hRc : Res wc wb.heap.size 10 := hBc.res (by simp)
  have hAc : Ext wb wc := by rw [hwc]; exact hE.alloc _
  replace hE := Ext.refl wc
  have Hsz2 : Hid (wb.heap.size + 1 = wc.heap.size) := Lib.hid (by rw [hwc]; simp [go_sem])
  have Hwc := Lib.hid hwc
  clear hwc hBc
  have hgc : ∀ W, Ext wc W → Ints W v l := fun W hW => hg W (hAc.trans hW)
  have hbc : ∀ W, Ext wc W → W.cell? ⟨w.heap.size, 0, none⟩ = some v := fun W hW => hb W (hAc.trans hW)
  have hwc : wb.heap.size < wc.heap.size := by have := Hsz2.out; omega
  cases hf : fullB l a b
  · have Hs := Lib.hid (cs_no hf)
    go_enter Tryz.func15, Tryz.ntmps15
    go_wp2_with fail
    rw [← Hwb.out, ← Hwc.out]; rw [Hsz.out]
    refine (sKneserPair_no _ _ _ _ _ (hgc _ hE) hf).mono ?_
    rintro e w1 ⟨rfl, hE1⟩
    have hr := hRc.ext hE1
    unfold Res at hr
    go_wp2_with fail
    exact bodyPost_ret (v := .tuple #[CV 0 (.slice none 0 0) (.slice none 0 0) 0 0 0 0 (.slice none 0 0) (.slice none 0 0) 0, .bool false]) (by simp [results, Tryz.results15, go_sem, hr, CV]) rfl ⟨_, _, _, _, by rw [Hs.out.1, Hs.out.2.1, Hs.out.2.2.1, Hs.out.2.2.2.1, Hs.out.2.2.2.2.1], by rw [Hs.out.2.2.2.2.2]; exact ⟨Own.nil _ _ _, Own.nil _ _ _, Own.nil _ _ _, Own.nil _ _ _, Apart.nil_left _, Apart.nil_left _, Apart.nil_left _, Apart.nil_left _, Apart.nil_left _, Apart.nil_left _⟩, hE0.trans (by (repeat (refine Ext.setCell ?_ (Nat.le_refl _) _)); exact hAc.trans hE1)⟩
  · have hf' := hf
    obtain ⟨m, n, rfl, rfl, -, -, -, -, ha, hb', hgr, -, -⟩ := fullB_nat hf
    have Hs := Lib.hid (cs_yes hf')
    have Hgr := Lib.hid hgr
    obtain ⟨a, rfl⟩ : ∃ a, a = m := ⟨_, rfl⟩
    obtain ⟨b, rfl⟩ : ∃ b, b = n := ⟨_, rfl⟩
    clear hgr
    go_enter Tryz.func15, Tryz.ntmps15
    go_wp2_with fail
    rw [← Hwb.out, ← Hwc.out]; rw [Hsz.out]
    refine (sKneserPair_yes _ _ _ _ _ (hgc _ hE) hf').mono ?_
    rintro e w1 ⟨rfl, hE1⟩
    have kb := hbc _ hE1
    replace hE := hE1
    clear hf hf'
    go_wp2_with fail
    have hD := hE.drew
    first | (go_region_held3 (fun W => Ext (wb) W ∧ W.cell? ⟨w.heap.size, 0, none⟩ = some v ∧ (∀ i, i < 10 → W.cell? ⟨(wb).heap.size, i, none⟩ = some (At W ⟨(wb).heap.size, i, none⟩) ∧ W.frozen? ⟨(wb).heap.size, i, none⟩ = false)) (exact ⟨(by (repeat (refine Ext.setCell ?_ (Nat.le_refl _) _)); exact Ext.trans hAc (by repeat (first | assumption | exact Ext.refl _ | (apply And.left; assumption) | apply Ext.drew | apply Ext.alloc))), hb _ (by (repeat (refine Ext.setCell ?_ (Nat.le_refl _) _)); exact Ext.trans hAc (by repeat (first | assumption | exact Ext.refl _ | (apply And.left; assumption) | apply Ext.drew | apply Ext.alloc))), (by (repeat (refine Res.setCell ?_ _ _)); exact Res.ext hRc (by repeat (first | assumption | exact Ext.refl _ | (apply And.left; assumption) | apply Ext.drew | apply Ext.alloc)))⟩) (first | (go_at_call 83; ((with_reducible refine Calls.mono (l33Group_any _ _ _ (hgc _ (by repeat (first | assumption | exact Ext.refl _ | (apply And.left; assumption) | apply Ext.drew | apply Ext.alloc)))) ?_); rintro e wH0 ⟨ao, c, rfl, hO, hX0⟩; have hH0 := Ext.trans (a := wc) (by repeat (first | assumption | exact Ext.refl _ | (apply And.left; assumption) | apply Ext.drew | apply Ext.alloc)) hX0)) | (go_at_call 84; ((with_reducible refine Calls.mono (l4Sum_any _ _ _ _ _ (hgc _ (by repeat (first | assumption | exact Ext.refl _ | (apply And.left; assumption) | apply Ext.drew | apply Ext.alloc))) Hgr ha hb') ?_); rintro e wH1 ⟨rfl, hX1⟩; have hH1 := Ext.trans (a := wc) (by repeat (first | assumption | exact Ext.refl _ | (apply And.left; assumption) | apply Ext.drew | apply Ext.alloc)) hX1)))) | (fail "the region with a result")
    go_wp2_with fail
    have hr := hRc.ext hH1
    unfold Res at hr
    have hv := (hO.ext hX1).mono (show Ext wc _ by repeat (first | assumption | exact Ext.refl _ | (apply And.left; assumption) | apply Ext.drew | apply Ext.alloc))
    exact bodyPost_ret (v := .tuple #[CV 1 (.slice ao l.length c) (.slice none 0 0) (a : Int) (b : Int) (sumF l a b : Int) (kpH l a b : Int) (.slice none 0 0) (.slice none 0 0) 0, .bool true]) (by simp [results, Tryz.results15, go_sem, hr, CV]) rfl ⟨_, _, _, _, by rw [Hs.out.1, Hs.out.2.1, Hs.out.2.2.1, Hs.out.2.2.2.1, Hs.out.2.2.2.2.1], by rw [Hs.out.2.2.2.2.2]; exact ⟨(show Own 3 wc _ _ _ by (repeat (refine Own.setCell_below ?_ hwc _)); exact hv).mono (hE0.trans hAc), Own.nil _ _ _, Own.nil _ _ _, Own.nil _ _ _, Apart.nil_right _, Apart.nil_right _, Apart.nil_right _, Apart.nil_left _, Apart.nil_left _, Apart.nil_left _⟩, hE0.trans (by (repeat (refine Ext.setCell ?_ (Nat.le_refl _) _)); exact hAc.trans hH1)⟩
end Go.Zz

/- Progressions and their differences. -/
namespace Go.Zz
open Go.RowKit Go.Proofs
set_option maxHeartbeats 1000000

/-- the terms of a progression -/
def prCur (l : List Int) (s d : Nat) : Nat → Nat
  | 0 => s
  | k + 1 => addF l (prCur l s d k) d
def prSet (l : List Int) (s d n : Nat) : Nat := bset ((List.range n).map (prCur l s d))
theorem prSet_succ (l : List Int) (s d k : Nat) : prSet l s d (k + 1) = prSet l s d k ||| 2 ^ prCur l s d k := by
  unfold prSet; rw [List.range_succ, List.map_append]; exact bset_snoc _ _
theorem prCur_bd {l : List Int} (h : isGrp l = true) {s : Nat} (hs : s < 24) (d : Nat) : ∀ k, prCur l s d k < 24
  | 0 => hs
  | _ + 1 => addF_bd h _ _
theorem prSet_bd {l : List Int} (h : isGrp l = true) {s : Nat} (hs : s < 24) (d n : Nat) : prSet l s d n < 2 ^ 24 := by
  refine bset_lt fun x hx => ?_
  obtain ⟨k, _, rfl⟩ := List.mem_map.1 hx
  exact prCur_bd h hs d k
/-- whether a set is a progression by a step, from one of the elements of a list on -/
def diffL (l : List Int) (a d : Nat) (L : List Nat) : Bool := L.any (fun x => decide (prSet l x d (cnt a) = a))
def diffB (l : List Int) (a d : Nat) : Bool := diffL l a d (elems a)
def difTo (l : List Int) (a k : Nat) : List Nat := (List.range k).filter (diffB l a)
theorem difTo_yes {l : List Int} {a k : Nat} (h : diffB l a k = true) : difTo l a (k + 1) = difTo l a k ++ [k] := by
  unfold difTo; rw [List.range_succ, List.filter_append]; simp [h]
theorem difTo_no {l : List Int} {a k : Nat} (h : diffB l a k = false) : difTo l a (k + 1) = difTo l a k := by
  unfold difTo; rw [List.range_succ, List.filter_append]; simp [h]
theorem difTo_len (l : List Int) (a k : Nat) : (difTo l a k).length ≤ k := by
  unfold difTo; exact Nat.le_trans (List.length_filter_le _ _) (by simp)
def difF (l : List Int) (a : Int) : List Int := if isOneB l a then castL (difTo l a.toNat (ord l)) else []
theorem difF_no {l : List Int} {a : Int} (h : isOneB l a = false) : difF l a = [] := by unfold difF; rw [h]; rfl
theorem difF_yes {l : List Int} {n : Nat} (h : isOneB l n = true) : difF l n = castL (difTo l n (ord l)) := by unfold difF; rw [if_pos h]; rfl
theorem diffL_take {l : List Int} {a d : Nat} {L : List Nat} (h : ∀ j, j < L.length → prSet l (nthN L j) d (cnt a) ≠ a) : diffL l a d L = false := by
  unfold diffL
  rw [← Bool.not_eq_true, List.any_eq_true]
  rintro ⟨x, hx, hd⟩
  obtain ⟨j, hj, rfl⟩ := List.getElem_of_mem hx
  have := h j hj
  unfold nthN at this
  rw [List.getD_eq_getElem?_getD, List.getElem?_eq_getElem hj] at this
  exact this (of_decide_eq_true hd)
theorem diffL_at {l : List Int} {a d : Nat} {L : List Nat} {j : Nat} (hj : j < L.length) (h : prSet l (nthN L j) d (cnt a) = a) : diffL l a d L = true := by
  unfold diffL; rw [List.any_eq_true]; exact ⟨_, nthN_mem hj, decide_eq_true h⟩
end Go.Zz

/- Cosets, boxes, sets of Sidon. No program is named here. -/
namespace Go.Zz

theorem shiftF_shift {l : List Int} (h : isGrp l = true) (a x y : Nat) : shiftF l (shiftF l a x) y = shiftF l a (addF l y x) := by
  have ho := isGrp_ords h
  apply Nat.eq_of_testBit_eq
  intro z
  apply bool_eq_of
  rw [testBit_shiftF, testBit_shiftF]
  constructor
  · rintro ⟨u, _, hu, rfl⟩
    obtain ⟨t, ht, hb, rfl⟩ := testBit_shiftF.1 hu
    exact ⟨t, ht, hb, addF_assoc l ho y x t⟩
  · rintro ⟨t, ht, hb, rfl⟩
    exact ⟨addF l x t, addF_bd h x t, testBit_shiftF.2 ⟨t, ht, hb, rfl⟩, (addF_assoc l ho y x t).symm⟩
theorem shiftF_none {l : List Int} (h : isGrp l = true) {a : Nat} (ha : a < 2 ^ ord l) : shiftF l a 0 = a := by
  apply Nat.eq_of_testBit_eq
  intro i
  apply bool_eq_of
  rw [testBit_shiftF]
  constructor
  · rintro ⟨y, _, hy, e⟩
    rw [addF_zero l (isGrp_ords h) y (bit_lt ha hy)] at e
    subst e; exact hy
  · intro hi
    have := bit_lt ha hi
    exact ⟨i, Nat.lt_of_lt_of_le this (ord_bd h).2, hi, addF_zero l (isGrp_ords h) i this⟩
/-- a coset is a shift of a subgroup, by its lowest element -/
theorem coset_iff {l : List Int} (h : isGrp l = true) {n : Nat} (hn : n < 2 ^ ord l) : shiftF l (baseF l n) (lowN n) = n ↔ baseF l n = shiftF l n (negF l (lowN n)) := by
  have ho := isGrp_ords h
  have e1 : addF l (negF l (lowN n)) (lowN n) = 0 := by rw [addF_comm]; exact addF_neg l ho _
  constructor
  · intro e
    have : shiftF l (shiftF l (baseF l n) (lowN n)) (negF l (lowN n)) = shiftF l n (negF l (lowN n)) := by rw [e]
    rw [shiftF_shift h, e1, shiftF_none h (show baseF l n < 2 ^ ord l from genF_lt h _)] at this
    exact this
  · intro e
    rw [e, shiftF_shift h, addF_neg l ho, shiftF_none h hn]
def cstB (l : List Int) (a : Int) : Bool := isOneB l a && decide (hullF l a = a)
theorem cstB_no {l : List Int} {a : Int} (h : isOneB l a = false) : cstB l a = false := by unfold cstB; rw [h]; rfl
theorem cstB_hull {l : List Int} {n : Nat} (h : isOneB l n = true) : cstB l n = (hullF l n == (n : Int)) := by unfold cstB; rw [h]; rfl
theorem cstB_sub {l : List Int} {n : Nat} (h : isOneB l n = true) : cstB l n = subB l (shiftF l n (negF l (lowN n)) : Nat) := by
  obtain ⟨n', e, h0, h1, h2, hg⟩ := isOneB_nat h
  obtain rfl : n = n' := by omega
  have hs : isSetB l (shiftF l n (negF l (lowN n)) : Nat) = true := isSetB_of hg (shiftF_lt (isGrp_ords hg) _ _)
  rw [cstB_hull h, hullF_yes h, subB_yes hs]
  have := coset_iff hg h1
  unfold baseF at this ⊢
  by_cases e : genF l (shiftF l n (negF l (lowN n))) = shiftF l n (negF l (lowN n))
  · rw [this.2 e, e]; simp
  · have e' : ¬ shiftF l (genF l (shiftF l n (negF l (lowN n)))) (lowN n) = n := fun q => e (this.1 q)
    have i1 : ((shiftF l (genF l (shiftF l n (negF l (lowN n)))) (lowN n) : Int) == (n : Int)) = false := by simp; omega
    have i2 : ((genF l (shiftF l n (negF l (lowN n))) : Int) == (shiftF l n (negF l (lowN n)) : Int)) = false := by simp; omega
    rw [i1, i2]

/-! ### boxes -/
def bxS (l : List Int) (n m d e : Nat) : Nat := sumF l (prSet l 0 d m) (prSet l 0 e (cnt n / m))
def bxAt (l : List Int) (n m d e : Nat) : Bool := decide (cnt (bxS l n m d e) = cnt n) && (List.range (ord l)).any (fun x => decide (shiftF l (bxS l n m d e) x = n))
def bxM (l : List Int) (n m : Nat) : Bool := decide (cnt n % m = 0) && (List.range (ord l)).any (fun d => (List.range (ord l)).any (fun e => bxAt l n m d e))
def bxN (l : List Int) (n : Nat) : Bool := (List.range (cnt n + 1)).any (fun m => decide (1 ≤ m ∧ m * m ≤ cnt n) && bxM l n m)
def boxB (l : List Int) (a : Int) : Bool := isOneB l a && bxN l a.toNat
theorem boxB_no {l : List Int} {a : Int} (h : isOneB l a = false) : boxB l a = false := by unfold boxB; rw [h]; rfl
theorem boxB_yes {l : List Int} {n : Nat} (h : isOneB l n = true) : boxB l n = bxN l n := by unfold boxB; rw [h]; rfl
theorem bxAt_cnt {l : List Int} {n m d e : Nat} (h : ¬ cnt (bxS l n m d e) = cnt n) : bxAt l n m d e = false := by unfold bxAt; simp [h]
theorem bxAt_no {l : List Int} {n m d e : Nat} (h : ∀ x, x < ord l → ¬ shiftF l (bxS l n m d e) x = n) : bxAt l n m d e = false := by
  unfold bxAt
  have : (List.range (ord l)).any (fun x => decide (shiftF l (bxS l n m d e) x = n)) = false := by
    rw [← Bool.not_eq_true, List.any_eq_true]
    rintro ⟨x, hx, hd⟩
    exact h x (List.mem_range.1 hx) (of_decide_eq_true hd)
  rw [this]; simp
theorem bxM_mod {l : List Int} {n m : Nat} (h : ¬ cnt n % m = 0) : bxM l n m = false := by unfold bxM; simp [h]
theorem bxM_no {l : List Int} {n m : Nat} (h : ∀ d, d < ord l → ∀ e, e < ord l → bxAt l n m d e = false) : bxM l n m = false := by
  unfold bxM
  have : (List.range (ord l)).any (fun d => (List.range (ord l)).any (fun e => bxAt l n m d e)) = false := by
    rw [← Bool.not_eq_true, List.any_eq_true]
    rintro ⟨d, hd, hx⟩
    rw [List.any_eq_true] at hx
    obtain ⟨e, he, hy⟩ := hx
    rw [h d (List.mem_range.1 hd) e (List.mem_range.1 he)] at hy; cases hy
  rw [this]; simp
theorem bxN_no {l : List Int} {n k : Nat} (h : ∀ m, 1 ≤ m → m < k → bxM l n m = false) (hk : ¬ k * k ≤ cnt n) : bxN l n = false := by
  unfold bxN
  rw [← Bool.not_eq_true, List.any_eq_true]
  rintro ⟨m, _, hx⟩
  rw [Bool.and_eq_true, decide_eq_true_eq] at hx
  obtain ⟨⟨h1, h2⟩, h3⟩ := hx
  rcases Nat.lt_or_ge m k with hlt | hge
  · rw [h m h1 hlt] at h3; cases h3
  · have := Nat.mul_le_mul hge hge; omega
theorem bxN_hit {l : List Int} {n m d e x : Nat} (h1 : 1 ≤ m) (h2 : m * m ≤ cnt n) (h3 : cnt n % m = 0) (hd : d < ord l) (he : e < ord l) (hx : x < ord l) (h4 : cnt (bxS l n m d e) = cnt n) (h5 : shiftF l (bxS l n m d e) x = n) : bxN l n = true := by
  unfold bxN bxM bxAt
  rw [List.any_eq_true]
  refine ⟨m, List.mem_range.2 (by have := Nat.le_mul_of_pos_left m h1; omega), ?_⟩
  rw [Bool.and_eq_true, Bool.and_eq_true, decide_eq_true_eq, decide_eq_true_eq]
  refine ⟨⟨h1, h2⟩, h3, ?_⟩
  rw [List.any_eq_true]
  refine ⟨d, List.mem_range.2 hd, ?_⟩
  rw [List.any_eq_true]
  refine ⟨e, List.mem_range.2 he, ?_⟩
  rw [Bool.and_eq_true, decide_eq_true_eq, List.any_eq_true]
  exact ⟨h4, x, List.mem_range.2 hx, decide_eq_true h5⟩

/-! ### sets of Sidon -/
def Sid (l : List Int) (L : List Nat) : Prop := ∀ i j k m, i ≤ j → j < L.length → k ≤ m → m < L.length → addF l (nthN L i) (nthN L j) = addF l (nthN L k) (nthN L m) → i = k ∧ j = m
open Classical in
noncomputable def sidL (l : List Int) (L : List Nat) : Bool := decide (Sid l L)
noncomputable def sidB (l : List Int) (a : Int) : Bool := isSetB l a && sidL l (elems a.toNat)
theorem sidB_no {l : List Int} {a : Int} (h : isSetB l a = false) : sidB l a = false := by unfold sidB; rw [h]; rfl
theorem sidB_yes {l : List Int} {n : Nat} (h : isSetB l n = true) : sidB l n = sidL l (elems n) := by unfold sidB; rw [h]; rfl
open Classical in
theorem sidL_t {l : List Int} {L : List Nat} (h : Sid l L) : sidL l L = true := by unfold sidL; exact decide_eq_true h
open Classical in
theorem sidL_f {l : List Int} {L : List Nat} (h : ¬ Sid l L) : sidL l L = false := by unfold sidL; exact decide_eq_false h
/-- the pair (p, q) comes before (i, j) -/
def Bef (i j p q : Nat) : Prop := p < i ∨ (p = i ∧ q < j)
/-- the sums of the pairs before (i, j) are apart, and they are the bits of a number -/
def SidTo (l : List Int) (L : List Nat) (i j seen : Nat) : Prop :=
  (∀ p q r t, p ≤ q → q < L.length → r ≤ t → t < L.length → Bef i j p q → Bef i j r t → addF l (nthN L p) (nthN L q) = addF l (nthN L r) (nthN L t) → p = r ∧ q = t) ∧
    (∀ z, seen.testBit z = true ↔ ∃ p q, p ≤ q ∧ q < L.length ∧ Bef i j p q ∧ addF l (nthN L p) (nthN L q) = z)
theorem SidTo.start (l : List Int) (L : List Nat) : SidTo l L 0 0 0 := by
  refine ⟨fun p q r t _ _ _ _ h => ?_, fun z => ?_⟩
  · rcases h with h | ⟨_, h⟩ <;> omega
  · rw [Nat.zero_testBit]
    constructor
    · intro h; cases h
    · rintro ⟨p, q, _, _, h, _⟩
      rcases h with h | ⟨_, h⟩ <;> omega
theorem SidTo.hit {l : List Int} {L : List Nat} {i j seen : Nat} (h : SidTo l L i j seen) (hij : i ≤ j) (hj : j < L.length) (hs : seen.testBit (addF l (nthN L i) (nthN L j)) = true) : ¬ Sid l L := by
  intro hS
  obtain ⟨p, q, hpq, hq, hb, e⟩ := (h.2 _).1 hs
  obtain ⟨rfl, rfl⟩ := hS p q i j hpq hq hij hj e
  rcases hb with hb | ⟨_, hb⟩ <;> omega
theorem SidTo.next {l : List Int} {L : List Nat} {i j seen : Nat} (h : SidTo l L i j seen) (hij : i ≤ j) (hj : j < L.length) (hs : seen.testBit (addF l (nthN L i) (nthN L j)) = false) :
    SidTo l L i (j + 1) (seen ||| 2 ^ addF l (nthN L i) (nthN L j)) := by
  have hb : ∀ p q, Bef i (j + 1) p q ↔ (Bef i j p q ∨ (p = i ∧ q = j)) := fun p q => by unfold Bef; omega
  refine ⟨fun p q r t h1 h2 h3 h4 h5 h6 e => ?_, fun z => ?_⟩
  · rcases (hb p q).1 h5 with a | ⟨rfl, rfl⟩ <;> rcases (hb r t).1 h6 with b | ⟨rfl, rfl⟩
    · exact h.1 p q r t h1 h2 h3 h4 a b e
    · have := (h.2 _).2 ⟨p, q, h1, h2, a, e⟩; rw [hs] at this; cases this
    · have := (h.2 _).2 ⟨r, t, h3, h4, b, e.symm⟩; rw [hs] at this; cases this
    · exact ⟨rfl, rfl⟩
  · rw [Nat.testBit_or, Nat.testBit_two_pow, Bool.or_eq_true, decide_eq_true_eq, h.2 z]
    constructor
    · rintro (⟨p, q, h1, h2, h3, h4⟩ | e)
      · exact ⟨p, q, h1, h2, (hb p q).2 (Or.inl h3), h4⟩
      · exact ⟨i, j, hij, hj, (hb i j).2 (Or.inr ⟨rfl, rfl⟩), e⟩
    · rintro ⟨p, q, h1, h2, h3, h4⟩
      rcases (hb p q).1 h3 with a | ⟨rfl, rfl⟩
      · exact Or.inl ⟨p, q, h1, h2, a, h4⟩
      · exact Or.inr h4
theorem SidTo.row {l : List Int} {L : List Nat} {i j seen : Nat} (h : SidTo l L i j seen) (hj : j = L.length) : SidTo l L (i + 1) (i + 1) seen := by
  have hb : ∀ p q, p ≤ q → q < L.length → (Bef (i + 1) (i + 1) p q ↔ Bef i j p q) := fun p q h1 h2 => by unfold Bef; omega
  refine ⟨fun p q r t h1 h2 h3 h4 h5 h6 e => h.1 p q r t h1 h2 h3 h4 ((hb p q h1 h2).1 h5) ((hb r t h3 h4).1 h6) e, fun z => ?_⟩
  rw [h.2 z]
  constructor
  · rintro ⟨p, q, h1, h2, h3, h4⟩; exact ⟨p, q, h1, h2, (hb p q h1 h2).2 h3, h4⟩
  · rintro ⟨p, q, h1, h2, h3, h4⟩; exact ⟨p, q, h1, h2, (hb p q h1 h2).1 h3, h4⟩
theorem SidTo.all {l : List Int} {L : List Nat} {i seen : Nat} (h : SidTo l L i i seen) (hi : i = L.length) : Sid l L := fun p q r t h1 h2 h3 h4 e =>
  h.1 p q r t h1 h2 h3 h4 (by unfold Bef; omega) (by unfold Bef; omega) e
end Go.Zz

/- Plain facts: a number put into a list, the tiles of a search are distinct. No program is named here. -/
namespace Go.Zz

/-- where n is put: behind the last number that is not greater -/
def pkN (L : List Nat) (n : Nat) : Nat → Nat
  | 0 => 0
  | k + 1 => if n < nthN L k then pkN L n k else k + 1
theorem pkN_down {L : List Nat} {n k : Nat} (h : n < nthN L k) : pkN L n (k + 1) = pkN L n k := by rw [pkN, if_pos h]
theorem pkN_stop {L : List Nat} {n k : Nat} (h : ¬ n < nthN L k) : pkN L n (k + 1) = k + 1 := by rw [pkN, if_neg h]
def putAt (L : List Nat) (n k : Nat) : List Nat := L.take k ++ n :: L.drop k
def putN (L : List Nat) (n : Nat) : List Nat := if 0 < pkN L n L.length ∧ nthN L (pkN L n L.length - 1) = n then L else putAt L n (pkN L n L.length)
theorem pkN_le (L : List Nat) (n : Nat) : ∀ k, pkN L n k ≤ k
  | 0 => Nat.le_refl _
  | k + 1 => by
    unfold pkN; split
    · exact Nat.le_succ_of_le (pkN_le L n k)
    · exact Nat.le_refl _
theorem putN_old {L : List Nat} {n k : Nat} (hk : pkN L n L.length = k + 1) (h : nthN L k = n) : putN L n = L := by
  unfold putN; rw [hk, if_pos ⟨by omega, h⟩]
theorem putN_zero {L : List Nat} {n : Nat} (hk : pkN L n L.length = 0) : putN L n = putAt L n 0 := by
  unfold putN; rw [hk, if_neg (by omega)]
theorem putN_new {L : List Nat} {n k : Nat} (hk : pkN L n L.length = k + 1) (h : ¬ nthN L k = n) : putN L n = putAt L n (k + 1) := by
  unfold putN; rw [hk, if_neg (fun e => h e.2)]
theorem putAt_len {L : List Nat} {n k : Nat} (hk : k ≤ L.length) : (putAt L n k).length = L.length + 1 := by
  unfold putAt; rw [List.length_append, List.length_cons, List.length_take, List.length_drop]; omega
theorem mem_putAt {L : List Nat} {n k x : Nat} : x ∈ putAt L n k ↔ x = n ∨ x ∈ L := by
  unfold putAt
  rw [List.mem_append, List.mem_cons]
  have h : x ∈ L ↔ x ∈ L.take k ∨ x ∈ L.drop k := by rw [← List.mem_append, List.take_append_drop]
  rw [h]
  constructor
  · rintro (a | a | a)
    · exact Or.inr (Or.inl a)
    · exact Or.inl a
    · exact Or.inr (Or.inr a)
  · rintro (a | a | a)
    · exact Or.inr (Or.inl a)
    · exact Or.inl a
    · exact Or.inr (Or.inr a)
theorem putN_cases (L : List Nat) (n : Nat) : (putN L n = L ∧ n ∈ L) ∨ putN L n = putAt L n (pkN L n L.length) := by
  unfold putN
  split
  · next h =>
    refine Or.inl ⟨rfl, ?_⟩
    have hle := pkN_le L n L.length
    have := nthN_mem (L := L) (k := pkN L n L.length - 1) (by omega)
    rwa [h.2] at this
  · exact Or.inr rfl
theorem mem_putN {L : List Nat} {n x : Nat} : x ∈ putN L n ↔ x = n ∨ x ∈ L := by
  rcases putN_cases L n with ⟨e, h⟩ | e
  · rw [e]
    constructor
    · exact Or.inr
    · rintro (rfl | a)
      · exact h
      · exact a
  · rw [e]; exact mem_putAt
theorem putN_len_new {L : List Nat} {n : Nat} (h : n ∉ L) : (putN L n).length = L.length + 1 := by
  rcases putN_cases L n with ⟨-, h2⟩ | e
  · exact absurd h2 h
  · rw [e]; exact putAt_len (pkN_le _ _ _)
theorem putN_len (L : List Nat) (n : Nat) : (putN L n).length ≤ L.length + 1 := by
  rcases putN_cases L n with ⟨e, -⟩ | e
  · rw [e]; omega
  · rw [e, putAt_len (pkN_le _ _ _)]; exact Nat.le_refl _
/-- the first k numbers of a list, put one by one -/
def putTo (T : List Nat) : Nat → List Nat
  | 0 => []
  | k + 1 => putN (putTo T k) (nthN T k)
theorem putTo_len (T : List Nat) : ∀ k, (putTo T k).length ≤ k
  | 0 => Nat.le_refl _
  | k + 1 => by have := putTo_len T k; have := putN_len (putTo T k) (nthN T k); unfold putTo; omega
theorem putTo_nodup {T : List Nat} (h : T.Nodup) : ∀ k, k ≤ T.length → (putTo T k).length = k ∧ ∀ x ∈ putTo T k, x ∈ T.take k
  | 0, _ => ⟨rfl, by simp [putTo]⟩
  | k + 1, hk => by
    obtain ⟨h1, h2⟩ := putTo_nodup h k (by omega)
    have hn : nthN T k ∉ putTo T k := fun e => by
      have := h2 _ e
      rw [← List.take_append_drop k T, List.nodup_append] at h
      have h4 : nthN T k ∈ T.drop k := by
        have e2 : nthN T k = T[k]'(by omega) := by simp [nthN, List.getD, show k < T.length by omega]
        rw [List.drop_eq_getElem_cons (by omega), e2]; exact List.mem_cons_self
      exact h.2.2 _ this _ h4 rfl
    refine ⟨by unfold putTo; rw [putN_len_new hn, h1], fun x hx => ?_⟩
    unfold putTo at hx
    rw [take_nthN T k (by omega), List.mem_append, List.mem_singleton]
    rcases mem_putN.1 hx with rfl | hx
    · exact Or.inr rfl
    · exact Or.inl (h2 x hx)

/-! ### the tiles of a search are distinct -/
/-- what a search from (u, b) leads to -/
def Lead (l : List Int) (a u b y : Nat) : Prop := ∀ d, (b.testBit d = true → y.testBit d = true) ∧ (y.testBit d = true → b.testBit d = true ∨ shiftF l a d &&& u = 0)
theorem and_zero_bit {a b i : Nat} (h : a &&& b = 0) (ha : a.testBit i = true) : b.testBit i = false := by
  cases hb : b.testBit i
  · rfl
  · have : (a &&& b).testBit i = true := by rw [Nat.testBit_and, ha, hb]; rfl
    rw [h, Nat.zero_testBit] at this; cases this
theorem and_zero_sub {a b c : Nat} (h : a &&& (b ||| c) = 0) : a &&& b = 0 := by
  apply Nat.eq_of_testBit_eq
  intro i
  rw [Nat.zero_testBit, Nat.testBit_and]
  cases ha : a.testBit i
  · rfl
  · have := and_zero_bit h ha
    rw [Nat.testBit_or, Bool.or_eq_false_iff] at this
    rw [this.1]; rfl
theorem Lead.back {l : List Int} {a u b D y : Nat} (hz : shiftF l a D &&& u = 0) (h : Lead l a (u ||| shiftF l a D) (b ||| 2 ^ D) y) : Lead l a u b y := fun d => by
  obtain ⟨h1, h2⟩ := h d
  refine ⟨fun hb => h1 (by rw [Nat.testBit_or, hb]; rfl), fun hy => ?_⟩
  rcases h2 hy with h3 | h3
  · rw [Nat.testBit_or, Bool.or_eq_true, Nat.testBit_two_pow] at h3
    rcases h3 with h3 | h3
    · exact Or.inl h3
    · have : D = d := by simpa using h3
      subst this; exact Or.inr hz
  · exact Or.inr (and_zero_sub h3)
theorem tlS_fold {c : Nat → Prop} [DecidablePred c] {G : Nat → Nat → List Nat} {Q : Nat → Nat → Prop} {E : List Nat} {m : Nat} (hG : ∀ x k, x ∈ E → c x → (G x k).Nodup ∧ ∀ y ∈ G x k, Q x y)
    (hQ : ∀ x ∈ E, ∀ x' ∈ E, ∀ y, c x → c x' → Q x y → Q x' y → x = x') :
    ∀ (L pre out : List Nat), (pre ++ L).Nodup → (∀ x ∈ pre ++ L, x ∈ E) → out.Nodup → (∀ y ∈ out, ∃ x ∈ pre, c x ∧ Q x y) →
      (L.foldl (fun (out : List Nat) (x : Nat) => if out.length < m ∧ c x then out ++ G x (m - out.length) else out) out).Nodup ∧ ∀ y ∈ L.foldl (fun (out : List Nat) (x : Nat) => if out.length < m ∧ c x then out ++ G x (m - out.length) else out) out, ∃ x ∈ pre ++ L, c x ∧ Q x y := by
  intro L
  induction L with
  | nil => intro pre out _ _ h3 h4; exact ⟨h3, by simpa using h4⟩
  | cons x L ih =>
    intro pre out h1 h2 h3 h4
    have e : pre ++ x :: L = (pre ++ [x]) ++ L := by simp
    rw [List.foldl_cons, e]
    rw [e] at h1 h2
    refine ih (pre ++ [x]) _ h1 h2 ?_ ?_
    · split
      · next hc =>
        have hx : x ∈ E := h2 x (by simp)
        obtain ⟨g1, g2⟩ := hG x (m - out.length) hx hc.2
        rw [List.nodup_append]
        refine ⟨h3, g1, fun y hy z hz e => ?_⟩
        subst e
        obtain ⟨x', hx', hc', hq⟩ := h4 y hy
        have := hQ x' (h2 x' (by simp [hx'])) x hx y hc' hc.2 hq (g2 y hz)
        subst this
        rw [List.nodup_append] at h1
        have h5 := h1.1
        rw [List.nodup_append] at h5
        exact h5.2.2 _ hx' _ (by simp) rfl
      · exact h3
    · intro y hy
      split at hy
      · next hc =>
        rw [List.mem_append] at hy
        rcases hy with hy | hy
        · obtain ⟨x', hx', hq⟩ := h4 y hy; exact ⟨x', by simp [hx'], hq⟩
        · exact ⟨x, by simp, hc.2, (hG x _ (h2 x (by simp)) hc.2).2 y hy⟩
      · obtain ⟨x', hx', hq⟩ := h4 y hy; exact ⟨x', by simp [hx'], hq⟩
theorem dF_add {l : List Int} (hg : isGrp l = true) {u x : Nat} (hu : lowZ u < ord l) : addF l (dF l u x) x = lowZ u := by
  unfold dF
  rw [addF_assoc l (isGrp_ords hg), addF_comm l (negF l x) x, addF_neg l (isGrp_ords hg), addF_comm l, addF_zero l (isGrp_ords hg) _ hu]
theorem low_free {l : List Int} {u : Nat} (hu : u < 2 ^ ord l) (ho : ord l ≤ 24) (h : u ≠ fullN l) : lowZ u < ord l ∧ u.testBit (lowZ u) = false := by
  have hex : ∃ e, u.testBit e = false ∧ e < ord l := Classical.byContradiction fun hn => h (not_full hu (e := ord l) (fun j hj => Classical.byContradiction fun hb => hn ⟨j, by simpa using hb, hj⟩) (Nat.le_refl _))
  have key : ∀ n, (∃ e, e < n ∧ u.testBit e = false) → ∃ e, e < n ∧ u.testBit e = false ∧ ∀ j, j < e → u.testBit j = true := by
    intro n
    induction n with
    | zero => rintro ⟨e, he, _⟩; omega
    | succ n ih =>
      rintro ⟨e, he, hb⟩
      by_cases hc : ∃ e, e < n ∧ u.testBit e = false
      · obtain ⟨e', h1, h2⟩ := ih hc; exact ⟨e', by omega, h2⟩
      · have e0 : e = n := Classical.byContradiction fun hn => hc ⟨e, by omega, hb⟩
        subst e0
        exact ⟨e, by omega, hb, fun j hj => Classical.byContradiction fun hb => hc ⟨j, hj, by simpa using hb⟩⟩
  obtain ⟨e, he, hb⟩ := hex
  obtain ⟨e', h1, h2, h3⟩ := key (ord l) ⟨e, hb, he⟩
  rw [lowZ_is h3 h2 (by omega)]; exact ⟨h1, h2⟩
theorem in_shift {l : List Int} (hg : isGrp l = true) {a u x : Nat} (hu : lowZ u < ord l) (hx : x ∈ elems a) : (shiftF l a (dF l u x)).testBit (lowZ u) = true := by
  rw [testBit_shiftF]
  exact ⟨x, (mem_elems.1 hx).1, (mem_elems.1 hx).2, dF_add hg hu⟩
theorem tlS_nodup {l : List Int} (hg : isGrp l = true) {a : Nat} (ha : a < 2 ^ ord l) : ∀ f u b m, u < 2 ^ ord l → (∀ d, b.testBit d = true → Sub (shiftF l a d) u) →
    (tlS l a f u b m).Nodup ∧ ∀ y ∈ tlS l a f u b m, Lead l a u b y := by
  intro f
  induction f with
  | zero => intro u b m _ _; simp [tlS]
  | succ f ih =>
    intro u b m hu hI
    have hob := ord_bd hg
    by_cases hfull : u = fullN l
    · rw [tlS_full hfull]
      refine ⟨by simp, fun y hy => ?_⟩
      rw [List.mem_singleton] at hy
      subst hy
      exact fun d => ⟨id, Or.inl⟩
    · obtain ⟨hl1, hl2⟩ := low_free hu hob.2 hfull
      have hbit : ∀ x ∈ elems a, x < ord l := fun x hx => Classical.byContradiction fun hn => by
        have := testBit_ge ha (Nat.le_of_not_lt hn); rw [(mem_elems.1 hx).2] at this; cases this
      unfold tlS
      rw [if_neg hfull]
      have key := tlS_fold (c := fun x => shiftF l a (dF l u x) &&& u = 0) (G := fun x k => tlS l a f (u ||| shiftF l a (dF l u x)) (b ||| 2 ^ dF l u x) k) (Q := fun x y => Lead l a (u ||| shiftF l a (dF l u x)) (b ||| 2 ^ dF l u x) y) (E := elems a) (m := m)
        (fun x k hx hc => ih _ _ k (Nat.or_lt_two_pow hu (shiftF_lt (isGrp_ords hg) a _)) fun d hd => by
          rw [Nat.testBit_or, Bool.or_eq_true, Nat.testBit_two_pow] at hd
          rcases hd with hd | hd
          · exact (hI d hd).trans (Sub.or_left _ _)
          · have : dF l u x = d := by simpa using hd
            subst this; exact Sub.or_right _ _)
        (fun x hx x' hx' y hc hc' hq hq' => by
          have hD : y.testBit (dF l u x') = true := (hq' _).1 (by rw [Nat.testBit_or, Nat.testBit_two_pow]; simp)
          have hs' := in_shift hg hl1 hx'
          have hs := in_shift hg hl1 hx
          rcases (hq _).2 hD with h1 | h1
          · rw [Nat.testBit_or, Bool.or_eq_true, Nat.testBit_two_pow] at h1
            rcases h1 with h1 | h1
            · have := hI _ h1 _ hs'
              rw [hl2] at this; cases this
            · have e : dF l u x = dF l u x' := by simpa using h1
              have e1 := dF_add hg (x := x) hl1
              have e2 := dF_add hg (x := x') hl1
              rw [e] at e1
              exact addF_cancel (isGrp_ords hg) (hbit x hx) (hbit x' hx') (e1.trans e2.symm)
          · have := and_zero_bit h1 hs'
            rw [Nat.testBit_or, hs] at this; simp at this)
        (elems a) [] [] (by simpa using elems_nodup a) (by simp) (by simp) (by simp)
      refine ⟨key.1, fun y hy => ?_⟩
      obtain ⟨x, -, hc, hq⟩ := key.2 y hy
      exact hq.back hc
theorem tileL_nodup {l : List Int} (hg : isGrp l = true) {a : Nat} (ha : a < 2 ^ ord l) (m : Nat) : (tileL l a m).Nodup :=
  (tlS_nodup hg ha _ _ _ _ ha fun d hd => by
    have : d = 0 := by
      rw [show (1 : Nat) = 2 ^ 0 from rfl, Nat.testBit_two_pow] at hd
      have : 0 = d := by simpa using hd
      omega
    subst this
    rw [shiftF_none hg ha]; exact Sub.refl _).1
end Go.Zz
