/- Generated subgroups, hulls, covers. -/
import Derived.Test.YtgmbjfjihhdenaaGr7
import Derived.Test.YtgmbjfjihhdenaaGr3
import Derived.Test.YtgmbjfjihhdenaaGr4
namespace Go.Zz
open Go.RowKit Go.Proofs
set_option maxHeartbeats 400000

--%call generated 172 ext generated_any _ _ _ _ ({0}) ({1}) ({2})
theorem generated_any (v : Value) (l : List Int) (a : Nat) (w : World) (h : Ints w v l) (Hgr : Hid (isGrp l = true)) (ha : a < 2 ^ 24) :
    Calls Try.prog 172 #[.agg #[v], .int .i64 a] w fun e w' => e = .returned (.int .i64 (genF l a)) ∧ Ext w w' := by
  obtain ⟨wb, hwb⟩ : ∃ wb, wb = w.alloc (.cells #[v] 31) := ⟨_, rfl⟩
  have hE0 := (Ext.refl w).alloc (.cells #[v] 31)
  have hb := box_cell w v 31
  rw [← hwb] at hE0 hb
  have hg : ∀ W, Ext wb W → Ints W v l := fun W hW => h.ext (hE0.trans hW)
  have hE := Ext.refl wb
  have Hsz : Hid (w.heap.size + 1 = wb.heap.size) := Lib.hid (by rw [hwb]; simp [go_sem])
  have Hwb := Lib.hid hwb
  clear hwb h
  have hgb := genF_bd Hgr.out a
  have ho := oppF_bd Hgr.out a
  have Hone := Lib.hid (genF_one l a)
  go_enter Try.func172, Try.ntmps172
  go_wp2_with fail
  rw [← Hwb.out]
  go_loopw [5] (fun hv wr => ∃ h : Nat, Sub 1 h ∧ Sub h (genF l a) ∧ hv = .int .i64 h ∧ Ext wb wr) (fun hv _ => 16777216 - (intOf hv).toNat)
  case atStart => exact ⟨1, Sub.refl 1, Hone.out, rfl, hE⟩
  case round =>
    clear hE
    obtain ⟨h, h1, h2, rfl, hE⟩ := hrel
    have hbx := fun U => hb _ (lat_ext wb U)
    have hh := sub_bd hgb h2
    have hs1 := sumF_bd Hgr.out h a
    have hs2 := sumF_bd Hgr.out h (oppF l a)
    have i1 := ior_nat (a := h) (b := sumF l h a) (by omega) (by omega)
    have ho1 : h ||| sumF l h a < 2 ^ 24 := Nat.or_lt_two_pow hh hs1
    have i2 := ior_nat (a := h ||| sumF l h a) (b := sumF l h (oppF l a)) (by omega) (by omega)
    have hN2 := grow2_sub Hgr.out h2
    have hN1 := grow2_le l a h
    have hend := grow2_end h1 h2
    have hNb := sub_bd hgb hN2
    rw [show h ||| sumF l h a ||| sumF l h (oppF l a) = grow2 l a h from rfl] at i2
    generalize grow2 l a h = N at i2 hN2 hN1 hend hNb
    have H1 := Lib.hid h1
    have H2 := Lib.hid h2
    have HN1 := Lib.hid hN1
    have HN2 := Lib.hid hN2
    have He := Lib.hid hend
    clear h1 h2 hN1 hN2 hend
    by_cases hq : N = h
    · have hq' : ((N : Int) == (h : Int)) = true := by simp [hq]
      have Hq := Lib.hid hq
      clear hq
      go_wp2_with fail
      (refine wp_region_lat (wb) (by kernel_rfl) (by kernel_rfl) hE ?_); (repeat (go_big_quiet_step (first | (go_at_call 140; exact Calls.lat (sum_any _ _ _ _ _ (hg _ (lat_ext wb _)) (Hgr) (hh) (ha))) | (go_at_call 140; exact Calls.lat (sum_any _ _ _ _ _ (hg _ (lat_ext wb _)) (Hgr) (hh) (ho))) | (go_at_call 158; exact Calls.lat (opposite_any _ _ _ _ (hg _ (lat_ext wb _)) (Hgr) (ha)))))); (refine wpQuiet_nil ?_); (intro W hE'); (replace hE := lat_of hE'); (clear hE')
      go_wp2_with fail
      go_ret
      exact ⟨ret_int (by rw [← He.out Hq.out]), hE0.trans hE⟩
    · have hq' : ((N : Int) == (h : Int)) = false := by simp; omega
      have Hlt := Lib.hid (sub_lt hNb HN1.out (fun e => hq e.symm)).1
      clear hq
      go_wp2_with fail
      (refine wp_region_lat (wb) (by kernel_rfl) (by kernel_rfl) hE ?_); (repeat (go_big_quiet_step (first | (go_at_call 140; exact Calls.lat (sum_any _ _ _ _ _ (hg _ (lat_ext wb _)) (Hgr) (hh) (ha))) | (go_at_call 140; exact Calls.lat (sum_any _ _ _ _ _ (hg _ (lat_ext wb _)) (Hgr) (hh) (ho))) | (go_at_call 158; exact Calls.lat (opposite_any _ _ _ _ (hg _ (lat_ext wb _)) (Hgr) (ha)))))); (refine wpQuiet_nil ?_); (intro W hE'); (replace hE := lat_of hE'); (clear hE')
      go_wp2_with fail
      go_roundw
      case rel => exact ⟨N, H1.out.trans HN1.out, HN2.out, rfl, hE⟩
      case measure => (simp [intOf]; have := Hlt.out; omega)
--%call l5Closure 174 ext l5Closure_any _ _ _ _ ({0}) ({1}) ({2})
theorem l5Closure_any (v : Value) (l : List Int) (a : Nat) (w : World) (h : Ints w v l) (Hgr : Hid (isGrp l = true)) (ha : a < 2 ^ 24) :
    Calls Try.prog 174 #[.agg #[v], .int .i64 a] w fun e w' => e = .returned (.int .i64 (genF l a)) ∧ Ext w w' := by
  obtain ⟨wb, hwb⟩ : ∃ wb, wb = w.alloc (.cells #[v] 31) := ⟨_, rfl⟩
  have hE0 := (Ext.refl w).alloc (.cells #[v] 31)
  have hb := box_cell w v 31
  rw [← hwb] at hE0 hb
  have hg : ∀ W, Ext wb W → Ints W v l := fun W hW => h.ext (hE0.trans hW)
  have hE := Ext.refl wb
  have Hsz : Hid (w.heap.size + 1 = wb.heap.size) := Lib.hid (by rw [hwb]; simp [go_sem])
  have Hwb := Lib.hid hwb
  clear hwb h
  have hbx := hb wb hE
  have hgb := genF_bd Hgr.out a
  have Hone := Lib.hid (genF_one l a)
  have h1b : (1 : Nat) < 2 ^ 24 := by omega
  have hs1 := sumF_bd Hgr.out 1 a
  have i1 := ior_nat (a := 1) (b := sumF l 1 a) (by omega) (by omega)
  go_enter Try.func174, Try.ntmps174
  go_wp2_with fail
  rw [← Hwb.out]
  go_wp2_with (first | (go_at_call 142; refine (l4Sum_any _ _ _ _ _ (hg _ hE) (Hgr) (h1b) (ha)).mono ?_; rintro e w' ⟨rfl, hE'⟩; replace hE := hE.trans hE'; clear hE'))
  clear hbx hs1
  go_loopw [5, 6] (fun hv nv wr => ∃ h : Nat, Sub 1 h ∧ Sub h (genF l a) ∧ hv = .int .i64 h ∧ nv = .int .i64 (grow l a h : Nat) ∧ Ext wb wr) (fun hv _ _ => 16777216 - (intOf hv).toNat)
  case atStart => exact ⟨1, Sub.refl 1, Hone.out, rfl, by unfold grow; rw [← i1]; rfl, hE⟩
  case round =>
    clear hE i1
    obtain ⟨h, h1, h2, rfl, rfl, hE⟩ := hrel
    have hbx := hb _ hE
    have hh := sub_bd hgb h2
    have hN2 := grow_sub Hgr.out h2
    have hN1 : Sub h (grow l a h) := Sub.or_left _ _
    have hend := grow_end h1 h2
    have hNb := sub_bd hgb hN2
    generalize grow l a h = N at hN2 hN1 hend hNb ⊢
    have hs1 := sumF_bd Hgr.out N a
    have i1 := ior_nat (a := N) (b := sumF l N a) (by omega) (by omega)
    have Hi : Hid (N ||| sumF l N a = grow l a N) := Lib.hid rfl
    have H1 := Lib.hid h1
    have H2 := Lib.hid h2
    have HN1 := Lib.hid hN1
    have HN2 := Lib.hid hN2
    have He := Lib.hid hend
    clear h1 h2 hN1 hN2 hend
    by_cases hq : N = h
    · have hq' : ((N : Int) != (h : Int)) = false := by simp [hq]
      have Hq := Lib.hid hq
      clear hq
      go_wp2_with fail
      go_ret
      exact ⟨ret_int (by rw [← He.out Hq.out]), hE0.trans hE⟩
    · have hq' : ((N : Int) != (h : Int)) = true := by simp; omega
      have Hlt := Lib.hid (sub_lt hNb HN1.out (fun e => hq e.symm)).1
      clear hq
      go_wp2_with (first | (go_at_call 142; refine (l4Sum_any _ _ _ _ _ (hg _ hE) (Hgr) (hNb) (ha)).mono ?_; rintro e w' ⟨rfl, hE'⟩; replace hE := hE.trans hE'; clear hE'))
      go_roundw
      case rel => exact ⟨N, H1.out.trans HN1.out, HN2.out, rfl, by rw [Hi.out], hE⟩
      case measure => (simp [intOf]; have := Hlt.out; omega)

end Go.Zz

/- Cosets of small doubling. -/
namespace Go.Zz
open Go.RowKit Go.Proofs
set_option maxHeartbeats 400000

def scD (l : List Int) (a : Int) : Int := if smallF l a then (sumF l a.toNat (oppF l a.toNat) : Int) else 0
def scS (l : List Int) (a : Int) : Int := if smallF l a then (sumF l a.toNat (sumF l a.toNat (oppF l a.toNat)) : Int) else 0
theorem sc_no {l : List Int} {a : Int} (h : smallF l a = false) : scD l a = 0 ∧ scS l a = 0 := by unfold scD scS; rw [h]; exact ⟨rfl, rfl⟩
theorem sc_yes {l : List Int} {n : Nat} (h : smallF l n = true) : scD l n = (sumF l n (oppF l n) : Int) ∧ scS l n = (sumF l n (sumF l n (oppF l n)) : Int) := by unfold scD scS; rw [h]; exact ⟨rfl, rfl⟩
theorem smallF_nat {l : List Int} {a : Int} (h : smallF l a = true) : ∃ n : Nat, a = n ∧ n < 2 ^ ord l ∧ n < 2 ^ 24 ∧ isGrp l = true ∧ isSetB l a = true := by
  unfold smallF at h
  have h1 := (Bool.and_eq_true_iff.1 (Bool.and_eq_true_iff.1 h).1).1
  obtain ⟨n, rfl, a, b, c⟩ := isSetB_nat h1
  exact ⟨n, rfl, a, b, c, h1⟩
--%call sDiff 73 ext sDifferenceOfSets_nat _ _ _ _ _ ({0}) ({1}) ({2})
theorem sDifferenceOfSets_nat (v : Value) (l : List Int) (a b : Nat) (w : World) (h : Ints w v l) (ha : isSetB l a = true) (hb' : isSetB l b = true) :
    Calls Try.prog 73 #[.agg #[v], .int .i64 a, .int .i64 b] w fun e w' => e = .returned (.int .i64 (sumF l a (oppF l b))) ∧ Ext w w' := by
  obtain ⟨wb, hwb⟩ : ∃ wb, wb = w.alloc (.cells #[v] 31) := ⟨_, rfl⟩
  have hE0 := (Ext.refl w).alloc (.cells #[v] 31)
  have hb := box_cell w v 31
  rw [← hwb] at hE0 hb
  have hg : ∀ W, Ext wb W → Ints W v l := fun W hW => h.ext (hE0.trans hW)
  have hE := Ext.refl wb
  have Hsz : Hid (w.heap.size + 1 = wb.heap.size) := Lib.hid (by rw [hwb]; simp [go_sem])
  have Hwb := Lib.hid hwb
  clear hwb h
  obtain ⟨a', e1, -, ha2, hgr⟩ := isSetB_nat ha
  obtain ⟨b', e2, -, hb2, -⟩ := isSetB_nat hb'
  obtain rfl : a = a' := by omega
  obtain rfl : b = b' := by omega
  have hbx := fun U => hb _ (lat_ext wb U)
  have hbx1 := hb wb hE
  have Hgr := Lib.hid hgr
  have ho := oppF_bd hgr b
  clear hgr e1 e2
  go_enter Try.func73, Try.ntmps73
  go_wp2_with fail
  rw [← Hwb.out]
  go_wp2_with (first | (go_at_call 141; (first | (with_reducible refine Calls.mono (sIsSet_val _ _ (a : Int) _ (hg _ hE) ha) ?_) | (with_reducible refine Calls.mono (sIsSet_val _ _ (b : Int) _ (hg _ hE) hb') ?_)); rintro e w' ⟨rfl, hE'⟩; replace hE := hE.trans hE'; clear hE'))
  (refine wp_region_lat (wb) (by kernel_rfl) (by kernel_rfl) hE ?_); (repeat (go_big_quiet_step (first | (go_at_call 167; exact Calls.lat (l3Negate_any _ _ _ _ (hg _ (lat_ext wb _)) (Hgr) (hb2))) | (go_at_call 142; exact Calls.lat (l4Sum_any _ _ _ _ _ (hg _ (lat_ext wb _)) (Hgr) (ha2) (ho)))))); (refine wpQuiet_nil ?_); (intro W hE'); (replace hE := lat_of hE'); (clear hE')
  go_wp2_with fail
  go_ret
  exact ⟨rfl, hE0.trans hE⟩
end Go.Zz

/- Claims of cosets. -/
namespace Go.Zz
open Go.RowKit Go.Proofs
set_option maxHeartbeats 2000000
set_option maxRecDepth 20000

end Go.Zz

/- Claims of sums: stabilizers, pairs of Kneser's bound. -/
namespace Go.Zz
open Go.RowKit Go.Proofs
set_option maxHeartbeats 2000000
set_option maxRecDepth 20000

/-- the elements below k that shift a set onto itself -/
def stabTo (l : List Int) (a k : Nat) : Nat := bset ((List.range k).filter (fun x => decide (shiftF l a x = a)))
theorem stabTo_yes {l : List Int} {a k : Nat} (h : shiftF l a k = a) : stabTo l a (k + 1) = stabTo l a k ||| 2 ^ k := by
  unfold stabTo; rw [List.range_succ, List.filter_append]; simp only [List.filter_cons, List.filter_nil, h, decide_true, if_true]; exact bset_snoc _ _
theorem stabTo_no {l : List Int} {a k : Nat} (h : ¬ shiftF l a k = a) : stabTo l a (k + 1) = stabTo l a k := by
  unfold stabTo; rw [List.range_succ, List.filter_append]; simp [h]
theorem stabTo_lt (l : List Int) (a k : Nat) : stabTo l a k < 2 ^ k := bset_lt fun _ hx => List.mem_range.1 (List.mem_filter.1 hx).1
def stabF (l : List Int) (a : Nat) : Nat := stabTo l a (ord l)
theorem stabF_lt (l : List Int) (a : Nat) : stabF l a < 2 ^ ord l := stabTo_lt l a _
def fullB (l : List Int) (a b : Int) : Bool := isSetB l a && isSetB l b && !(a == 0) && !(b == 0)
theorem fullB_set {l : List Int} {a b : Int} (h : (isSetB l a && isSetB l b) = false) : fullB l a b = false := by unfold fullB; rw [h]; rfl
theorem fullB_nat {l : List Int} {a b : Int} (h : fullB l a b = true) : ∃ m n : Nat, a = m ∧ b = n ∧ m ≠ 0 ∧ n ≠ 0 ∧ m < 2 ^ ord l ∧ n < 2 ^ ord l ∧ m < 2 ^ 24 ∧ n < 2 ^ 24 ∧ isGrp l = true ∧ isSetB l a = true ∧ isSetB l b = true := by
  unfold fullB at h
  simp only [Bool.and_eq_true, Bool.not_eq_true', beq_eq_false_iff_ne] at h
  obtain ⟨⟨⟨h1, h2⟩, h3⟩, h4⟩ := h
  obtain ⟨m, rfl, a1, a2, hg⟩ := isSetB_nat h1
  obtain ⟨n, rfl, b1, b2, -⟩ := isSetB_nat h2
  exact ⟨m, n, rfl, rfl, by omega, by omega, a1, b1, a2, b2, hg, h1, h2⟩
theorem cnt_sum_ge {l : List Int} (h : isGrp l = true) {a b : Nat} (ha : a ≠ 0) (ha2 : a < 2 ^ ord l) (hb : b < 2 ^ ord l) : cnt b ≤ cnt (sumF l a b) := by
  obtain ⟨x, hx⟩ := bit_of_pos ha
  rw [← cnt_shift h hb x]
  refine cnt_mono fun i hi => ?_
  obtain ⟨y, hy, by_, rfl⟩ := testBit_shiftF.1 hi
  exact testBit_sumF.2 ⟨x, y, Nat.lt_of_lt_of_le (bit_lt ha2 hx) (ord_bd h).2, hx, hy, by_, rfl⟩

theorem StabilizerOf_nat (v : Value) (l : List Int) (a : Nat) (w : World) (h : Ints w v l) (hs : isSetB l a = true) :
    Calls Try.prog 234 #[.agg #[v], .int .i64 a] w fun e w' => e = .returned (.int .i64 (stabF l a : Nat)) ∧ Ext w w' := by
  obtain ⟨wb, hwb⟩ : ∃ wb, wb = w.alloc (.cells #[v] 31) := ⟨_, rfl⟩
  have hE0 := (Ext.refl w).alloc (.cells #[v] 31)
  have hb := box_cell w v 31
  rw [← hwb] at hE0 hb
  have hg : ∀ W, Ext wb W → Ints W v l := fun W hW => h.ext (hE0.trans hW)
  have hE := Ext.refl wb
  have Hsz : Hid (w.heap.size + 1 = wb.heap.size) := Lib.hid (by rw [hwb]; simp [go_sem])
  have Hwb := Lib.hid hwb
  clear hwb h
  obtain ⟨a', e1, -, ha2, hgr⟩ := isSetB_nat hs
  obtain rfl : a = a' := by omega
  have Hgr := Lib.hid hgr
  have hob := ord_bd hgr
  clear hgr e1
  go_enter Try.func234, Try.ntmps234
  go_wp2_with fail
  rw [← Hwb.out]
  go_wp2_with (first | (go_at_call 134; refine (IsSet_val _ _ _ _ (hg _ hE) (hs)).mono ?_; rintro e w' ⟨rfl, hE'⟩; replace hE := hE.trans hE'; clear hE') | (go_at_call 114; refine (OrderOf_grp _ _ _ (hg _ hE) (Hgr)).mono ?_; rintro e w' ⟨rfl, hE'⟩; replace hE := hE.trans hE'; clear hE'))
  clear hs
  go_loopw [5, 13] (fun ov xv wr => ∃ k : Nat, k ≤ ord l ∧ xv = .int .i64 k ∧ ov = .int .i64 (stabTo l a k : Nat) ∧ Ext wb wr) (fun _ x _ => ord l - (intOf x).toNat)
  case atStart => exact ⟨0, by omega, rfl, rfl, hE⟩
  case round =>
    clear hE
    obtain ⟨k, hk, rfl, rfl, hE⟩ := hrel
    have hbx := hb _ hE
    by_cases hlt : k < ord l
    · have hst : stabTo l a k < 2 ^ 24 := Nat.lt_of_lt_of_le (stabTo_lt l a k) (Nat.pow_le_pow_right (by omega) (by omega))
      have hsf := shiftF_bd Hgr.out a k
      have hs1 := ishl_one (n := k) (by omega)
      have hs2 := ior_pw hst (show k < 24 by omega)
      by_cases hq : shiftF l a k = a
      · have Hn := Lib.hid (stabTo_yes hq)
        have hqi : ((shiftF l a k : Int) == (a : Int)) = true := by rw [hq]; simp
        clear hq
        go_wp2_with (first | (go_at_call 153; refine (shift_any _ _ _ _ _ (hg _ hE) (Hgr) (ha2) ((by omega))).mono ?_; rintro e w' ⟨rfl, hE'⟩; replace hE := hE.trans hE'; clear hE'))
        go_roundw
        case rel => exact ⟨k + 1, by omega, by go_num, by rw [Hn.out], hE⟩
        case measure => (simp [intOf]; omega)
      · have Hn := Lib.hid (stabTo_no hq)
        have hqi : ((shiftF l a k : Int) == (a : Int)) = false := by simp; omega
        clear hq
        go_wp2_with (first | (go_at_call 153; refine (shift_any _ _ _ _ _ (hg _ hE) (Hgr) (ha2) ((by omega))).mono ?_; rintro e w' ⟨rfl, hE'⟩; replace hE := hE.trans hE'; clear hE'))
        go_roundw
        case rel => exact ⟨k + 1, by omega, by go_num, by rw [Hn.out], hE⟩
        case measure => (simp [intOf]; omega)
    · have hkl : k = ord l := by omega
      subst hkl
      go_wp2_with fail
      go_ret
      exact ⟨rfl, hE0.trans hE⟩
--%call l6Stabilizer 231 ext l6Stabilizer_any _ _ _ _ ({0}) ({1}) ({2})
theorem l6Stabilizer_any (v : Value) (l : List Int) (a : Nat) (w : World) (h : Ints w v l) (Hgr : Hid (isGrp l = true)) (ha2 : a < 2 ^ 24) :
    Calls Try.prog 231 #[.agg #[v], .int .i64 a] w fun e w' => e = .returned (.int .i64 (stabF l a : Nat)) ∧ Ext w w' := by
  obtain ⟨wb, hwb⟩ : ∃ wb, wb = w.alloc (.cells #[v] 31) := ⟨_, rfl⟩
  have hE0 := (Ext.refl w).alloc (.cells #[v] 31)
  have hb := box_cell w v 31
  rw [← hwb] at hE0 hb
  have hg : ∀ W, Ext wb W → Ints W v l := fun W hW => h.ext (hE0.trans hW)
  have hE := Ext.refl wb
  have Hsz : Hid (w.heap.size + 1 = wb.heap.size) := Lib.hid (by rw [hwb]; simp [go_sem])
  have Hwb := Lib.hid hwb
  clear hwb h
  have hob := ord_bd Hgr.out
  go_enter Try.func231, Try.ntmps231
  go_wp2_with fail
  rw [← Hwb.out]
  go_loopw [5, 6] (fun ov xv wr => ∃ k : Nat, k ≤ ord l ∧ xv = .int .i64 k ∧ ov = .int .i64 (stabTo l a k : Nat) ∧ Ext wb wr) (fun _ x _ => ord l - (intOf x).toNat)
  case atStart => exact ⟨0, by omega, rfl, rfl, hE⟩
  case round =>
    clear hE
    obtain ⟨k, hk, rfl, rfl, hE⟩ := hrel
    have hbx := hb _ hE
    by_cases hlt : k < ord l
    · have hst : stabTo l a k < 2 ^ 24 := Nat.lt_of_lt_of_le (stabTo_lt l a k) (Nat.pow_le_pow_right (by omega) (by omega))
      have hsf := shiftF_bd Hgr.out a k
      have hs1 := ishl_one (n := k) (by omega)
      have hs2 := ior_pw hst (show k < 24 by omega)
      by_cases hq : shiftF l a k = a
      · have Hn := Lib.hid (stabTo_yes hq)
        have hqi : ((shiftF l a k : Int) == (a : Int)) = true := by rw [hq]; simp
        clear hq
        go_wp2_with (first | (go_at_call 106; refine (l2Order_any _ _ _ (hg _ hE) (Hgr)).mono ?_; rintro e w' ⟨rfl, hE'⟩; replace hE := hE.trans hE'; clear hE') | (go_at_call 156; refine (l3Shift_any _ _ _ _ _ (hg _ hE) (Hgr) (ha2) ((by omega))).mono ?_; rintro e w' ⟨rfl, hE'⟩; replace hE := hE.trans hE'; clear hE'))
        go_roundw
        case rel => exact ⟨k + 1, by omega, by go_num, by rw [Hn.out], hE⟩
        case measure => (simp [intOf]; omega)
      · have Hn := Lib.hid (stabTo_no hq)
        have hqi : ((shiftF l a k : Int) == (a : Int)) = false := by simp; omega
        clear hq
        go_wp2_with (first | (go_at_call 106; refine (l2Order_any _ _ _ (hg _ hE) (Hgr)).mono ?_; rintro e w' ⟨rfl, hE'⟩; replace hE := hE.trans hE'; clear hE') | (go_at_call 156; refine (l3Shift_any _ _ _ _ _ (hg _ hE) (Hgr) (ha2) ((by omega))).mono ?_; rintro e w' ⟨rfl, hE'⟩; replace hE := hE.trans hE'; clear hE'))
        go_roundw
        case rel => exact ⟨k + 1, by omega, by go_num, by rw [Hn.out], hE⟩
        case measure => (simp [intOf]; omega)
    · have hkl : k = ord l := by omega
      subst hkl
      go_wp2_with (first | (go_at_call 106; refine (l2Order_any _ _ _ (hg _ hE) (Hgr)).mono ?_; rintro e w' ⟨rfl, hE'⟩; replace hE := hE.trans hE'; clear hE'))
      go_ret
      exact ⟨rfl, hE0.trans hE⟩
/-- the bound of Kneser, as the reference writes it -/
def knF (l : List Int) (a b : Nat) : Int := (cnt (sumF l a (stabF l (sumF l a b))) : Int) + cnt (sumF l b (stabF l (sumF l a b))) - cnt (stabF l (sumF l a b))
theorem knF_pos {l : List Int} (h : isGrp l = true) {a b : Nat} (ha : a ≠ 0) (ha2 : a < 2 ^ ord l) : 0 ≤ knF l a b := by
  have := cnt_sum_ge h ha ha2 (stabF_lt l (sumF l a b))
  unfold knF; omega
def kpH (l : List Int) (a b : Nat) : Nat := stabF l (sumF l a b)
def csK (l : List Int) (a b : Int) : Int := if fullB l a b then 1 else 0
def csA (l : List Int) (a b : Int) : Int := if fullB l a b then a else 0
def csB (l : List Int) (a b : Int) : Int := if fullB l a b then b else 0
def csS (l : List Int) (a b : Int) : Int := if fullB l a b then (sumF l a.toNat b.toNat : Int) else 0
def csP (l : List Int) (a b : Int) : Int := if fullB l a b then (kpH l a.toNat b.toNat : Int) else 0
def csG (l : List Int) (a b : Int) : List Int := if fullB l a b then l else []
theorem cs_no {l : List Int} {a b : Int} (h : fullB l a b = false) : csK l a b = 0 ∧ csA l a b = 0 ∧ csB l a b = 0 ∧ csS l a b = 0 ∧ csP l a b = 0 ∧ csG l a b = [] := by
  unfold csK csA csB csS csP csG; rw [h]; exact ⟨rfl, rfl, rfl, rfl, rfl, rfl⟩
theorem cs_yes {l : List Int} {a b : Nat} (h : fullB l a b = true) : csK l a b = 1 ∧ csA l a b = a ∧ csB l a b = b ∧ csS l a b = (sumF l a b : Int) ∧ csP l a b = (kpH l a b : Int) ∧ csG l a b = l := by
  unfold csK csA csB csS csP csG; rw [h]; exact ⟨rfl, rfl, rfl, rfl, rfl, rfl⟩
end Go.Zz

/- Progressions and their differences. -/
namespace Go.Zz
open Go.RowKit Go.Proofs
set_option maxHeartbeats 1000000

/-- the terms of a progression -/
def prCur (l : List Int) (s d : Nat) : Nat → Nat
  | 0 => s
  | k + 1 => addF l (prCur l s d k) d
def prSet (l : List Int) (s d n : Nat) : Nat := bset ((List.range n).map (prCur l s d))
theorem prSet_succ (l : List Int) (s d k : Nat) : prSet l s d (k + 1) = prSet l s d k ||| 2 ^ prCur l s d k := by
  unfold prSet; rw [List.range_succ, List.map_append]; exact bset_snoc _ _
theorem prCur_bd {l : List Int} (h : isGrp l = true) {s : Nat} (hs : s < 24) (d : Nat) : ∀ k, prCur l s d k < 24
  | 0 => hs
  | _ + 1 => addF_bd h _ _
theorem prSet_bd {l : List Int} (h : isGrp l = true) {s : Nat} (hs : s < 24) (d n : Nat) : prSet l s d n < 2 ^ 24 := by
  refine bset_lt fun x hx => ?_
  obtain ⟨k, _, rfl⟩ := List.mem_map.1 hx
  exact prCur_bd h hs d k
/-- whether a set is a progression by a step, from one of the elements of a list on -/
def diffL (l : List Int) (a d : Nat) (L : List Nat) : Bool := L.any (fun x => decide (prSet l x d (cnt a) = a))
def diffB (l : List Int) (a d : Nat) : Bool := diffL l a d (elems a)
def difTo (l : List Int) (a k : Nat) : List Nat := (List.range k).filter (diffB l a)
theorem difTo_yes {l : List Int} {a k : Nat} (h : diffB l a k = true) : difTo l a (k + 1) = difTo l a k ++ [k] := by
  unfold difTo; rw [List.range_succ, List.filter_append]; simp [h]
theorem difTo_no {l : List Int} {a k : Nat} (h : diffB l a k = false) : difTo l a (k + 1) = difTo l a k := by
  unfold difTo; rw [List.range_succ, List.filter_append]; simp [h]
theorem difTo_len (l : List Int) (a k : Nat) : (difTo l a k).length ≤ k := by
  unfold difTo; exact Nat.le_trans (List.length_filter_le _ _) (by simp)
def difF (l : List Int) (a : Int) : List Int := if isOneB l a then castL (difTo l a.toNat (ord l)) else []
theorem difF_no {l : List Int} {a : Int} (h : isOneB l a = false) : difF l a = [] := by unfold difF; rw [h]; rfl
theorem difF_yes {l : List Int} {n : Nat} (h : isOneB l n = true) : difF l n = castL (difTo l n (ord l)) := by unfold difF; rw [if_pos h]; rfl
theorem diffL_take {l : List Int} {a d : Nat} {L : List Nat} (h : ∀ j, j < L.length → prSet l (nthN L j) d (cnt a) ≠ a) : diffL l a d L = false := by
  unfold diffL
  rw [← Bool.not_eq_true, List.any_eq_true]
  rintro ⟨x, hx, hd⟩
  obtain ⟨j, hj, rfl⟩ := List.getElem_of_mem hx
  have := h j hj
  unfold nthN at this
  rw [List.getD_eq_getElem?_getD, List.getElem?_eq_getElem hj] at this
  exact this (of_decide_eq_true hd)
theorem diffL_at {l : List Int} {a d : Nat} {L : List Nat} {j : Nat} (hj : j < L.length) (h : prSet l (nthN L j) d (cnt a) = a) : diffL l a d L = true := by
  unfold diffL; rw [List.any_eq_true]; exact ⟨_, nthN_mem hj, decide_eq_true h⟩
end Go.Zz

/- Differences of progressions. -/
namespace Go.Zz
open Go.RowKit Go.Proofs
set_option maxHeartbeats 1000000
set_option maxRecDepth 20000

end Go.Zz

/- append to a slice that is empty without room, or owned behind a world. -/
namespace Go.Zz
open Go.RowKit Go.Proofs
set_option maxHeartbeats 400000

/-- v is the empty slice []int{} that reads as [], or it is owned in a block from w0 on -/
def OwnE (TI : TypeId) (wb w0 w : World) (v : Value) (l : List Int) : Prop :=
  (∃ g, wb.heap.size ≤ g ∧ v = .slice (some ⟨g, 0, none⟩) 0 0 ∧ l = [] ∧ Blk w g TI #[]) ∨ Own TI w0 w v l
theorem OwnE.ext {TI : TypeId} {wb w0 w w' : World} {v : Value} {l : List Int} (h : OwnE TI wb w0 w v l) (hE : Ext w w') : OwnE TI wb w0 w' v l := by
  rcases h with ⟨g, h0, h1, h2, h3⟩ | h
  · exact Or.inl ⟨g, h0, h1, h2, h3.ext hE⟩
  · exact Or.inr (h.ext hE)
theorem OwnE.own {TI : TypeId} {wb w0 w : World} {v : Value} {l : List Int} (h : OwnE TI wb w0 w v l) (hE : Ext wb w0) : Own TI wb w v l := by
  rcases h with ⟨g, h0, rfl, rfl, h3⟩ | h
  · exact ⟨⟨by simp, Or.inr ⟨g, 0, #[], rfl, h0, h3, Nat.le_refl _, Nat.zero_le _, by simp, by simp⟩⟩, by simp⟩
  · exact h.mono hE
theorem OwnE.start {TI : TypeId} {wb w1 w : World} (w0 : World) (hB : Blk w1 wb.heap.size TI #[]) (hE : Ext w1 w) : OwnE TI wb w0 w (.slice (some ⟨wb.heap.size, 0, none⟩) 0 0) [] := Or.inl ⟨_, Nat.le_refl _, rfl, rfl, hB.ext hE⟩
section
variable {P : Program} {ops : Array Oper} {rest : List Oper} {o : Oper} {a : Act} {Q : Exit → Act → World → Prop} {T TI : TypeId}
theorem wp_append1e (hT : IntSl P T TI) (hg : o.guard = none) (s x : Operand) (hop : o.op = Op.call { callee := Callee.builtin Builtin.append, args := #[s, x], argTypes := #[T, T] })
    (wb w0 W : World) (v : Value) (l : List Int) (y : Int) (hO : OwnE TI wb w0 W v l) (hE : Ext w0 W) (hn : l.length < 17592186044416) (hs : a.eval s = v) (hx : a.eval x = .slice (some ⟨W.heap.size, 0, none⟩) 1 1)
    (hK : ∀ v' w', Own TI w0 w' v' (l ++ [y]) → Ext w0 w' → wpList P ops Q rest (a.put o.dst v') w') :
    wpList P ops Q (o :: rest) a (W.alloc (.cells #[.int .i64 y] TI)) := by
  rcases hO with ⟨g, -, rfl, rfl, hB⟩ | hO
  · obtain ⟨i, hi, hz, hs1, hby⟩ := hT.info
    have hE1 := hE.alloc (.cells #[.int .i64 y] TI)
    obtain ⟨v', w', hrun, r1, r2⟩ := run_append_arg_grows (P := P) (w := W.alloc (.cells #[.int .i64 y] TI)) T o.type TI i (.int .i64 0) 1 8 hT.und hi hz hs1 hby rfl (by omega) ⟨g, 0, none⟩ 0 0 [] (by simp) (by simp) ⟨W.heap.size, 0, none⟩ 1 1 [.int .i64 y] rfl (cell_one_new _ _ _) (by omega) (by unfold maxLen; omega) (by omega)
    refine wpList_plain hg fun K hK' => ?_
    unfold Oper.wp
    simp [execOp, hop, resolve, invoke, builtin, hs, hx, hrun, Result.andThen]
    have hO' : Own TI (W.alloc (.cells #[.int .i64 y] TI)) w' v' [y] := ⟨by simpa using r1, by simp⟩
    exact hK' _ _ (hK _ _ (by simpa using hO'.mono hE1) (hE1.grown r2 (by simp)))
  · exact wp_append1 hT hg s x hop w0 W v l y hO hE hn hs hx hK
end
end Go.Zz

/- Differences of progressions: the reference. -/
namespace Go.Zz
open Go.RowKit Go.Proofs
set_option maxHeartbeats 1000000
set_option maxRecDepth 20000

end Go.Zz

/- Defects of sums, periods, common differences, the case of Kemperman. -/
namespace Go.Zz
open Go.RowKit Go.Proofs
set_option maxHeartbeats 1000000
set_option maxRecDepth 20000

def sdF (l : List Int) (a b : Int) : Int := if fullB l a b then (cnt (sumF l a.toNat b.toNat) : Int) - cnt a.toNat - cnt b.toNat + 1 else -100
theorem sdF_no {l : List Int} {a b : Int} (h : fullB l a b = false) : sdF l a b = -100 := by unfold sdF; rw [h]; rfl
theorem sdF_yes {l : List Int} {a b : Nat} (h : fullB l a b = true) : sdF l a b = (cnt (sumF l a b) : Int) - cnt a - cnt b + 1 := by unfold sdF; rw [if_pos h]; rfl
theorem sdF_bd (l : List Int) (a b : Int) (h : fullB l a b = true) : -47 ≤ sdF l a b ∧ sdF l a b ≤ 25 := by
  obtain ⟨m, n, rfl, rfl, -⟩ := fullB_nat h
  rw [sdF_yes h]
  have := cnt_le (sumF l m n); have := cnt_le m; have := cnt_le n
  omega
theorem shiftF_zero {l : List Int} (h : isGrp l = true) {a : Nat} (ha : a < 2 ^ ord l) : shiftF l a 0 = a := by
  apply Nat.eq_of_testBit_eq
  intro i
  apply bool_eq_of
  rw [testBit_shiftF]
  constructor
  · rintro ⟨y, _, hy, e⟩
    rw [addF_zero l (isGrp_ords h) y (bit_lt ha hy)] at e
    subst e; exact hy
  · intro hi
    have := bit_lt ha hi
    exact ⟨i, Nat.lt_of_lt_of_le this (ord_bd h).2, hi, addF_zero l (isGrp_ords h) i this⟩
theorem testBit_stabTo {l : List Int} {a k x : Nat} : (stabTo l a k).testBit x = true ↔ x < k ∧ shiftF l a x = a := by
  unfold stabTo; rw [testBit_bset]; simp
theorem stabF_zero {l : List Int} (h : isGrp l = true) {a : Nat} (ha : a < 2 ^ ord l) : (stabF l a).testBit 0 = true :=
  testBit_stabTo.2 ⟨(ord_bd h).1, shiftF_zero h ha⟩
theorem cnt_gt_one {n : Nat} (h : n.testBit 0 = true) (hn : n < 2 ^ 24) : 1 < cnt n ↔ 1 < n := by
  rw [Nat.testBit_zero] at h
  have h1 : n % 2 = 1 := of_decide_eq_true h
  have h2 := cnt_half n hn
  by_cases h3 : 1 < n
  · have := cnt_pos (a := n / 2) (by omega) (by omega)
    omega
  · have e : n / 2 = 0 := by omega
    rw [e, cnt_zero] at h2
    omega
def perF (l : List Int) (a : Int) : Bool := isSetB l a && decide (1 < stabF l a.toNat)
theorem perF_no {l : List Int} {a : Int} (h : isSetB l a = false) : perF l a = false := by unfold perF; rw [h]; rfl
theorem perF_yes {l : List Int} {n : Nat} (h : isSetB l n = true) : perF l n = decide (1 < stabF l n) := by unfold perF; rw [h]; rfl
/-- where a list has a number first -/
def idxF (M : List Int) (x : Int) : Int := match (List.range M.length).find? (fun k => decide (nth M k = x)) with | some k => (k : Int) | none => -1
theorem idxF_at {M : List Int} {x : Int} {k : Nat} (hk : k < M.length) (h : ∀ j, j < k → nth M j ≠ x) (e : nth M k = x) : idxF M x = k := by
  unfold idxF; rw [find_at hk (fun j hj => decide_eq_false (h j hj)) (decide_eq_true e)]
theorem idxF_none {M : List Int} {x : Int} (h : ∀ j, j < M.length → nth M j ≠ x) : idxF M x = -1 := by
  unfold idxF; rw [find_none (fun j hj => decide_eq_false (h j hj))]
theorem nmem_of {M : List Int} {x : Int} (h : ∀ j, j < M.length → nth M j ≠ x) : x ∉ M := fun hx => by
  obtain ⟨k, hk, e⟩ := mem_nth hx; exact h k hk e
def memB (M : List Int) (x : Int) : Bool := decide (x ∈ M)
theorem memB_idx (M : List Int) (x : Int) : decide (0 ≤ idxF M x) = memB M x := by
  by_cases h : ∃ k, k < M.length ∧ nth M k = x
  · have : x ∈ M := by obtain ⟨k, hk, e⟩ := h; rw [← e]; exact nth_mem hk
    have hm : memB M x = true := decide_eq_true this
    rw [hm, decide_eq_true_eq]
    unfold idxF
    cases hf : (List.range M.length).find? (fun k => decide (nth M k = x)) with
    | some k => simp only []; omega
    | none =>
      rw [List.find?_eq_none] at hf
      obtain ⟨k, hk, e⟩ := h
      exact absurd (decide_eq_true e) (hf k (List.mem_range.2 hk))
  · have h' : ∀ j, j < M.length → nth M j ≠ x := fun j hj e => h ⟨j, hj, e⟩
    rw [idxF_none h']
    have hm : memB M x = false := decide_eq_false (nmem_of h')
    rw [hm]; rfl
def comK (L M : List Int) : Option Nat := (List.range L.length).find? (fun k => memB M (nth L k))
def comD (L M : List Int) : Int := match comK L M with | some k => nth L k | none => 0
def comB (L M : List Int) : Bool := (comK L M).isSome
theorem com_at {L M : List Int} {k : Nat} (hk : k < L.length) (h : ∀ j, j < k → memB M (nth L j) = false) (e : memB M (nth L k) = true) : comD L M = nth L k ∧ comB L M = true := by
  unfold comD comB comK; rw [find_at hk h e]; exact ⟨rfl, rfl⟩
theorem com_none {L M : List Int} (h : ∀ j, j < L.length → memB M (nth L j) = false) : comD L M = 0 ∧ comB L M = false := by
  unfold comD comB comK; rw [find_none h]; exact ⟨rfl, rfl⟩

theorem IsPeriodic_any (v : Value) (l : List Int) (a : Int) (w : World) (h : Ints w v l) :
    Calls Try.prog 209 #[.agg #[v], .int .i64 a] w fun e w' => e = .returned (.bool (perF l a)) ∧ Ext w w' := by
  obtain ⟨wb, hwb⟩ : ∃ wb, wb = w.alloc (.cells #[v] 31) := ⟨_, rfl⟩
  have hE0 := (Ext.refl w).alloc (.cells #[v] 31)
  have hb := box_cell w v 31
  rw [← hwb] at hE0 hb
  have hg : ∀ W, Ext wb W → Ints W v l := fun W hW => h.ext (hE0.trans hW)
  have hE := Ext.refl wb
  have Hsz : Hid (w.heap.size + 1 = wb.heap.size) := Lib.hid (by rw [hwb]; simp [go_sem])
  have Hwb := Lib.hid hwb
  clear hwb h
  have hbx := hb wb hE
  cases hs : isSetB l a
  · have Hs := Lib.hid (perF_no hs)
    go_enter Try.func209, Try.ntmps209
    go_wp2_with fail
    rw [← Hwb.out]
    go_wp2_with (first | (go_at_call 134; refine (IsSet_val _ _ _ _ (hg _ hE) (hs)).mono ?_; rintro e w' ⟨rfl, hE'⟩; replace hE := hE.trans hE'; clear hE'))
    go_ret
    exact ⟨ret_bool Hs.out.symm, hE0.trans hE⟩
  · obtain ⟨n, rfl, h1, h2, hgr⟩ := isSetB_nat hs
    have hst : stabF l n < 2 ^ 24 := Nat.lt_of_lt_of_le (stabF_lt l _) (pow_ord hgr)
    have Hs : Hid (perF l n = decide ((1 : Int) < (cnt (stabF l n) : Int))) := Lib.hid (by
      rw [perF_yes hs]
      have := cnt_gt_one (stabF_zero hgr h1) hst
      by_cases e : 1 < stabF l n
      · rw [decide_eq_true e, decide_eq_true (by omega)]
      · rw [decide_eq_false e, decide_eq_false (by omega)])
    clear hgr h1
    go_enter Try.func209, Try.ntmps209
    go_wp2_with fail
    rw [← Hwb.out]
    go_wp2_with (first | (go_at_call 134; refine (IsSet_val _ _ _ _ (hg _ hE) (hs)).mono ?_; rintro e w' ⟨rfl, hE'⟩; replace hE := hE.trans hE'; clear hE') | (go_at_call 234; refine (StabilizerOf_nat _ _ _ _ (hg _ hE) hs).mono ?_; rintro e w' ⟨rfl, hE'⟩; replace hE := hE.trans hE'; clear hE') | (go_at_call 150; refine (bits_any _ (hst) _).mono ?_; rintro e w' ⟨rfl, rfl⟩))
    go_ret
    exact ⟨ret_bool (by rw [Hs.out]), hE0.trans hE⟩
theorem IsPeriodic_val (v : Value) (l : List Int) (a : Int) (w : World) (h : Ints w v l) {c : Bool} (hc : perF l a = c) :
    Calls Try.prog 209 #[.agg #[v], .int .i64 a] w fun e w' => e = .returned (.bool c) ∧ Ext w w' := by subst hc; exact IsPeriodic_any v l a w h
theorem sIsPeriodic_any (v : Value) (l : List Int) (a : Int) (w : World) (h : Ints w v l) :
    Calls Try.prog 206 #[.agg #[v], .int .i64 a] w fun e w' => e = .returned (.bool (perF l a)) ∧ Ext w w' := by
  obtain ⟨wb, hwb⟩ : ∃ wb, wb = w.alloc (.cells #[v] 31) := ⟨_, rfl⟩
  have hE0 := (Ext.refl w).alloc (.cells #[v] 31)
  have hb := box_cell w v 31
  rw [← hwb] at hE0 hb
  have hg : ∀ W, Ext wb W → Ints W v l := fun W hW => h.ext (hE0.trans hW)
  have hE := Ext.refl wb
  have Hsz : Hid (w.heap.size + 1 = wb.heap.size) := Lib.hid (by rw [hwb]; simp [go_sem])
  have Hwb := Lib.hid hwb
  clear hwb h
  have hbx := hb wb hE
  cases hs : isSetB l a
  · have Hs := Lib.hid (perF_no hs)
    go_enter Try.func206, Try.ntmps206
    go_wp2_with fail
    rw [← Hwb.out]
    go_wp2_with (first | (go_at_call 141; refine (sIsSet_val _ _ _ _ (hg _ hE) (hs)).mono ?_; rintro e w' ⟨rfl, hE'⟩; replace hE := hE.trans hE'; clear hE'))
    go_ret
    exact ⟨ret_bool Hs.out.symm, hE0.trans hE⟩
  · obtain ⟨n, rfl, h1, h2, hgr⟩ := isSetB_nat hs
    have Hgr := Lib.hid hgr
    have Hs : Hid (perF l n = decide ((1 : Int) < (stabF l n : Int))) := Lib.hid (by
      rw [perF_yes hs]
      by_cases e : 1 < stabF l n
      · rw [decide_eq_true e, decide_eq_true (by omega)]
      · rw [decide_eq_false e, decide_eq_false (by omega)])
    clear hgr h1
    go_enter Try.func206, Try.ntmps206
    go_wp2_with fail
    rw [← Hwb.out]
    go_wp2_with (first | (go_at_call 141; refine (sIsSet_val _ _ _ _ (hg _ hE) (hs)).mono ?_; rintro e w' ⟨rfl, hE'⟩; replace hE := hE.trans hE'; clear hE') | (go_at_call 231; refine (l6Stabilizer_any _ _ _ _ (hg _ hE) (Hgr) (h2)).mono ?_; rintro e w' ⟨rfl, hE'⟩; replace hE := hE.trans hE'; clear hE'))
    go_ret
    exact ⟨ret_bool (by rw [Hs.out]), hE0.trans hE⟩
theorem sIsPeriodic_val (v : Value) (l : List Int) (a : Int) (w : World) (h : Ints w v l) {c : Bool} (hc : perF l a = c) :
    Calls Try.prog 206 #[.agg #[v], .int .i64 a] w fun e w' => e = .returned (.bool c) ∧ Ext w w' := by subst hc; exact sIsPeriodic_any v l a w h
def kcF (l : List Int) (a b : Int) : ByteArray :=
  if fullB l a b then
    if 0 < sdF l a b then ⟨#[108, 97, 114, 103, 101]⟩ else if perF l (sumF l a.toNat b.toNat : Nat) then ⟨#[112, 101, 114, 105, 111, 100, 105, 99]⟩
    else if cnt a.toNat = 1 ∨ cnt b.toNat = 1 then ⟨#[111, 110, 101]⟩ else if comB (difF l a) (difF l b) then ⟨#[115, 116, 101, 112, 115]⟩ else ⟨#[111, 116, 104, 101, 114]⟩
  else ⟨#[]⟩
theorem kc_no {l : List Int} {a b : Int} (h : fullB l a b = false) : kcF l a b = ⟨#[]⟩ := by unfold kcF; rw [h]; rfl
theorem kc_1 {l : List Int} {a b : Nat} (h : fullB l a b = true) (h1 : 0 < sdF l a b) : kcF l a b = ⟨#[108, 97, 114, 103, 101]⟩ := by unfold kcF; rw [if_pos h, if_pos h1]
theorem kc_2 {l : List Int} {a b : Nat} (h : fullB l a b = true) (h1 : ¬ 0 < sdF l a b) (h2 : perF l (sumF l a b : Nat) = true) : kcF l a b = ⟨#[112, 101, 114, 105, 111, 100, 105, 99]⟩ := by
  unfold kcF; rw [if_pos h, if_neg h1]; exact if_pos h2
theorem kc_3 {l : List Int} {a b : Nat} (h : fullB l a b = true) (h1 : ¬ 0 < sdF l a b) (h2 : perF l (sumF l a b : Nat) = false) (h3 : cnt a = 1 ∨ cnt b = 1) : kcF l a b = ⟨#[111, 110, 101]⟩ := by
  unfold kcF; rw [if_pos h, if_neg h1, if_neg (by simp only [Int.toNat_natCast]; rw [h2]; decide)]; exact if_pos h3
theorem kc_4 {l : List Int} {a b : Nat} (h : fullB l a b = true) (h1 : ¬ 0 < sdF l a b) (h2 : perF l (sumF l a b : Nat) = false) (h3 : ¬ (cnt a = 1 ∨ cnt b = 1)) (h4 : comB (difF l a) (difF l b) = true) : kcF l a b = ⟨#[115, 116, 101, 112, 115]⟩ := by
  unfold kcF; rw [if_pos h, if_neg h1, if_neg (by simp only [Int.toNat_natCast]; rw [h2]; decide), if_neg (by simpa using h3)]; exact if_pos h4
theorem kc_5 {l : List Int} {a b : Nat} (h : fullB l a b = true) (h1 : ¬ 0 < sdF l a b) (h2 : perF l (sumF l a b : Nat) = false) (h3 : ¬ (cnt a = 1 ∨ cnt b = 1)) (h4 : comB (difF l a) (difF l b) = false) : kcF l a b = ⟨#[111, 116, 104, 101, 114]⟩ := by
  unfold kcF; rw [if_pos h, if_neg h1, if_neg (by simp only [Int.toNat_natCast]; rw [h2]; decide), if_neg (by simpa using h3), if_neg (by rw [h4]; decide)]
end Go.Zz

/- Direct sums, tilings, the bound of Kneser of the program, energies of the reference. -/
namespace Go.Zz
open Go.RowKit Go.Proofs
set_option maxHeartbeats 1000000
set_option maxRecDepth 4000

def drF (l : List Int) (a b : Int) : Bool := (isSetB l a && isSetB l b) && decide (cnt (sumF l a.toNat b.toNat) = cnt a.toNat * cnt b.toNat)
theorem drF_no {l : List Int} {a b : Int} (h : (isSetB l a && isSetB l b) = false) : drF l a b = false := by unfold drF; rw [h]; rfl
theorem drF_yes {l : List Int} {a b : Nat} (h : (isSetB l a && isSetB l b) = true) : drF l a b = (((cnt (sumF l a b) : Nat) : Int) == (cnt a : Int) * (cnt b : Int)) := by
  unfold drF; rw [h, Bool.true_and, Bool.eq_iff_iff, decide_eq_true_iff, beq_iff_eq]
  show cnt (sumF l a b) = cnt a * cnt b ↔ _
  constructor
  · intro e; rw [e]; simp
  · intro e; rw [← Int.natCast_mul] at e; exact Int.ofNat_inj.1 e
theorem cnt_mul (a b : Nat) : 0 ≤ (cnt a : Int) * (cnt b : Int) ∧ (cnt a : Int) * (cnt b : Int) ≤ 576 := by
  have h1 := cnt_le a
  have h2 := cnt_le b
  have := Nat.mul_le_mul h1 h2
  rw [← Int.natCast_mul]; omega
def tilF (l : List Int) (a b : Int) : Bool := drF l a b && decide (sumF l a.toNat b.toNat = fullN l)
theorem tilF_no {l : List Int} {a b : Int} (h : drF l a b = false) : tilF l a b = false := by unfold tilF; rw [h]; rfl
theorem tilF_yes {l : List Int} {a b : Nat} (h : drF l a b = true) : tilF l a b = (((sumF l a b : Nat) : Int) == (fullN l : Int)) := by
  unfold tilF; rw [h, Bool.true_and, Bool.eq_iff_iff, decide_eq_true_iff, beq_iff_eq]
  show sumF l a b = fullN l ↔ _
  omega
theorem drF_sets {l : List Int} {a b : Int} (h : drF l a b = true) : (isSetB l a && isSetB l b) = true := by unfold drF at h; rw [Bool.and_eq_true] at h; exact h.1

theorem IsDirect_any (v : Value) (l : List Int) (a b : Int) (w : World) (h : Ints w v l) :
    Calls Try.prog 52 #[.agg #[v], .int .i64 a, .int .i64 b] w fun e w' => e = .returned (.bool (drF l a b)) ∧ Ext w w' := by
  obtain ⟨wb, hwb⟩ : ∃ wb, wb = w.alloc (.cells #[v] 31) := ⟨_, rfl⟩
  have hE0 := (Ext.refl w).alloc (.cells #[v] 31)
  have hb := box_cell w v 31
  rw [← hwb] at hE0 hb
  have hg : ∀ W, Ext wb W → Ints W v l := fun W hW => h.ext (hE0.trans hW)
  have hE := Ext.refl wb
  have Hsz : Hid (w.heap.size + 1 = wb.heap.size) := Lib.hid (by rw [hwb]; simp [go_sem])
  have Hwb := Lib.hid hwb
  clear hwb h
  have hbx := hb wb hE
  have har := areF_two l a b
  cases hs : (isSetB l a && isSetB l b)
  · have Hs := Lib.hid (drF_no hs)
    rw [hs] at har
    clear hs
    go_enter Try.func52, Try.ntmps52
    go_wp2_with fail
    rw [← Hwb.out]; try rw [Hsz.out]
    go_wp2_with (first | (go_at_call 154; refine Calls.mono (areSets_val _ _ _ _ _ (hg _ (by repeat (first | assumption | exact Ext.refl _ | (apply And.left; assumption) | apply Ext.drew | apply Ext.alloc))) (ints_two _ _ _ _) har) ?_; rintro e w' ⟨rfl, hE'⟩; replace hE := hE.trans (Ext.trans (by repeat (first | assumption | exact Ext.refl _ | (apply And.left; assumption) | apply Ext.drew | apply Ext.alloc)) hE'); clear hE'))
    go_ret
    exact ⟨ret_bool Hs.out.symm, hE0.trans hE⟩
  · obtain ⟨h1, h2⟩ := Bool.and_eq_true_iff.1 hs
    obtain ⟨a, rfl, -, ha, hgr⟩ := isSetB_nat h1
    obtain ⟨b, rfl, -, hb', -⟩ := isSetB_nat h2
    have Hs := Lib.hid (drF_yes hs)
    rw [hs] at har
    have Hgr := Lib.hid hgr
    have hsum := sumF_bd hgr a b
    obtain ⟨hm1, hm2⟩ := cnt_mul a b
    have q1 := fun W => bits_any (sumF l a b) hsum W
    have q2 := fun W => bits_any a ha W
    have q3 := fun W => bits_any b hb' W
    clear hs hgr h1 h2
    go_enter Try.func52, Try.ntmps52
    go_wp2_with fail
    rw [← Hwb.out]; try rw [Hsz.out]
    go_wp2_with (first | (go_at_call 154; refine Calls.mono (areSets_val _ _ _ _ _ (hg _ (by repeat (first | assumption | exact Ext.refl _ | (apply And.left; assumption) | apply Ext.drew | apply Ext.alloc))) (ints_two _ _ _ _) har) ?_; rintro e w' ⟨rfl, hE'⟩; replace hE := hE.trans (Ext.trans (by repeat (first | assumption | exact Ext.refl _ | (apply And.left; assumption) | apply Ext.drew | apply Ext.alloc)) hE'); clear hE') | (go_at_call 140; refine (sum_any _ _ _ _ _ (hg _ hE) (Hgr) (ha) (hb')).mono ?_; rintro e w' ⟨rfl, hE'⟩; replace hE := hE.trans hE'; clear hE') | (go_at_call 150; (first | (with_reducible refine Calls.mono (q1 _) ?_) | (with_reducible refine Calls.mono (q2 _) ?_) | (with_reducible refine Calls.mono (q3 _) ?_)); rintro e w' ⟨rfl, rfl⟩))
    go_ret
    exact ⟨ret_bool Hs.out.symm, hE0.trans hE⟩
theorem sIsDirect_any (v : Value) (l : List Int) (a b : Int) (w : World) (h : Ints w v l) :
    Calls Try.prog 152 #[.agg #[v], .int .i64 a, .int .i64 b] w fun e w' => e = .returned (.bool (drF l a b)) ∧ Ext w w' := by
  obtain ⟨wb, hwb⟩ : ∃ wb, wb = w.alloc (.cells #[v] 31) := ⟨_, rfl⟩
  have hE0 := (Ext.refl w).alloc (.cells #[v] 31)
  have hb := box_cell w v 31
  rw [← hwb] at hE0 hb
  have hg : ∀ W, Ext wb W → Ints W v l := fun W hW => h.ext (hE0.trans hW)
  have hE := Ext.refl wb
  have Hsz : Hid (w.heap.size + 1 = wb.heap.size) := Lib.hid (by rw [hwb]; simp [go_sem])
  have Hwb := Lib.hid hwb
  clear hwb h
  have hbx := hb wb hE
  cases h1 : isSetB l a
  · have Hs := Lib.hid (drF_no (l := l) (a := a) (b := b) (by rw [h1]; rfl))
    go_enter Try.func152, Try.ntmps152
    go_wp2_with fail
    rw [← Hwb.out]
    go_wp2_with (first | (go_at_call 141; refine (sIsSet_val _ _ _ _ (hg _ hE) (h1)).mono ?_; rintro e w' ⟨rfl, hE'⟩; replace hE := hE.trans hE'; clear hE'))
    go_ret
    exact ⟨ret_bool Hs.out.symm, hE0.trans hE⟩
  · cases h2 : isSetB l b
    · have Hs := Lib.hid (drF_no (l := l) (a := a) (b := b) (by rw [h1, h2]; rfl))
      have c1 := fun W (hW : Ext wb W) => sIsSet_val v l a W (hg W hW) h1
      have c2 := fun W (hW : Ext wb W) => sIsSet_val v l b W (hg W hW) h2
      go_enter Try.func152, Try.ntmps152
      go_wp2_with fail
      rw [← Hwb.out]
      go_wp2_with (first | (go_at_call 141; (first | (with_reducible refine Calls.mono (c1 _ hE) ?_) | (with_reducible refine Calls.mono (c2 _ hE) ?_)); rintro e w' ⟨rfl, hE'⟩; replace hE := hE.trans hE'; clear hE'))
      go_ret
      exact ⟨ret_bool Hs.out.symm, hE0.trans hE⟩
    · have c1 := fun W (hW : Ext wb W) => sIsSet_val v l a W (hg W hW) h1
      have c2 := fun W (hW : Ext wb W) => sIsSet_val v l b W (hg W hW) h2
      have hs : (isSetB l a && isSetB l b) = true := by rw [h1, h2]; rfl
      obtain ⟨a, rfl, -, ha, hgr⟩ := isSetB_nat h1
      obtain ⟨b, rfl, -, hb', -⟩ := isSetB_nat h2
      have Hs := Lib.hid (drF_yes hs)
      have Hgr := Lib.hid hgr
      have hsum := sumF_bd hgr a b
      obtain ⟨hm1, hm2⟩ := cnt_mul a b
      have q1 := fun W => l3Bits_any (sumF l a b) hsum W
      have q2 := fun W => l3Bits_any a ha W
      have q3 := fun W => l3Bits_any b hb' W
      clear hs hgr h1 h2
      go_enter Try.func152, Try.ntmps152
      go_wp2_with fail
      rw [← Hwb.out]
      go_wp2_with (first | (go_at_call 141; (first | (with_reducible refine Calls.mono (c1 _ hE) ?_) | (with_reducible refine Calls.mono (c2 _ hE) ?_)); rintro e w' ⟨rfl, hE'⟩; replace hE := hE.trans hE'; clear hE') | (go_at_call 142; refine (l4Sum_any _ _ _ _ _ (hg _ hE) (Hgr) (ha) (hb')).mono ?_; rintro e w' ⟨rfl, hE'⟩; replace hE := hE.trans hE'; clear hE') | (go_at_call 151; (first | (with_reducible refine Calls.mono (q1 _) ?_) | (with_reducible refine Calls.mono (q2 _) ?_) | (with_reducible refine Calls.mono (q3 _) ?_)); rintro e w' ⟨rfl, rfl⟩))
      go_ret
      exact ⟨ret_bool Hs.out.symm, hE0.trans hE⟩
theorem IsTiling_any (v : Value) (l : List Int) (a b : Int) (w : World) (h : Ints w v l) :
    Calls Try.prog 208 #[.agg #[v], .int .i64 a, .int .i64 b] w fun e w' => e = .returned (.bool (tilF l a b)) ∧ Ext w w' := by
  obtain ⟨wb, hwb⟩ : ∃ wb, wb = w.alloc (.cells #[v] 31) := ⟨_, rfl⟩
  have hE0 := (Ext.refl w).alloc (.cells #[v] 31)
  have hb := box_cell w v 31
  rw [← hwb] at hE0 hb
  have hg : ∀ W, Ext wb W → Ints W v l := fun W hW => h.ext (hE0.trans hW)
  have hE := Ext.refl wb
  have Hsz : Hid (w.heap.size + 1 = wb.heap.size) := Lib.hid (by rw [hwb]; simp [go_sem])
  have Hwb := Lib.hid hwb
  clear hwb h
  have kb := fun U => hb _ (lat_ext wb U)
  have cD := fun U => IsDirect_any v l a b (Lat wb U) (hg _ (lat_ext wb U))
  cases hd : drF l a b
  · have Hs := Lib.hid (tilF_no hd)
    rw [hd] at cD
    go_enter Try.func208, Try.ntmps208
    go_wp2_with fail
    rw [← Hwb.out]
    (refine wp_region_lat (wb) (by kernel_rfl) (by kernel_rfl) hE ?_); (repeat (go_big_quiet_step (first | (go_at_call 52; exact Calls.lat (cD _))))); (refine wpQuiet_nil ?_); (intro W hE'); (replace hE := lat_of hE'); (clear hE')
    go_wp2_with fail
    go_ret
    exact ⟨ret_bool Hs.out.symm, hE0.trans hE⟩
  · rw [hd] at cD
    obtain ⟨h1, h2⟩ := Bool.and_eq_true_iff.1 (drF_sets hd)
    obtain ⟨a, rfl, -, ha, hgr⟩ := isSetB_nat h1
    obtain ⟨b, rfl, -, hb', -⟩ := isSetB_nat h2
    have Hs := Lib.hid (tilF_yes hd)
    have Hgr := Lib.hid hgr
    clear hgr h1 h2 hd
    go_enter Try.func208, Try.ntmps208
    go_wp2_with fail
    rw [← Hwb.out]
    (refine wp_region_lat (wb) (by kernel_rfl) (by kernel_rfl) hE ?_); (repeat (go_big_quiet_step (first | (go_at_call 52; exact Calls.lat (cD _)) | (go_at_call 140; exact Calls.lat (sum_any _ _ _ _ _ (hg _ (lat_ext wb _)) (Hgr) (ha) (hb'))) | (go_at_call 149; exact Calls.lat (FullSet_grp _ _ _ (hg _ (lat_ext wb _)) (Hgr)))))); (refine wpQuiet_nil ?_); (intro W hE'); (replace hE := lat_of hE'); (clear hE')
    go_wp2_with fail
    go_ret
    exact ⟨ret_bool Hs.out.symm, hE0.trans hE⟩
theorem sIsTiling_any (v : Value) (l : List Int) (a b : Int) (w : World) (h : Ints w v l) :
    Calls Try.prog 205 #[.agg #[v], .int .i64 a, .int .i64 b] w fun e w' => e = .returned (.bool (tilF l a b)) ∧ Ext w w' := by
  obtain ⟨wb, hwb⟩ : ∃ wb, wb = w.alloc (.cells #[v] 31) := ⟨_, rfl⟩
  have hE0 := (Ext.refl w).alloc (.cells #[v] 31)
  have hb := box_cell w v 31
  rw [← hwb] at hE0 hb
  have hg : ∀ W, Ext wb W → Ints W v l := fun W hW => h.ext (hE0.trans hW)
  have hE := Ext.refl wb
  have Hsz : Hid (w.heap.size + 1 = wb.heap.size) := Lib.hid (by rw [hwb]; simp [go_sem])
  have Hwb := Lib.hid hwb
  clear hwb h
  have kb := fun U => hb _ (lat_ext wb U)
  have cD := fun U => sIsDirect_any v l a b (Lat wb U) (hg _ (lat_ext wb U))
  cases hd : drF l a b
  · have Hs := Lib.hid (tilF_no hd)
    rw [hd] at cD
    go_enter Try.func205, Try.ntmps205
    go_wp2_with fail
    rw [← Hwb.out]
    (refine wp_region_lat (wb) (by kernel_rfl) (by kernel_rfl) hE ?_); (repeat (go_big_quiet_step (first | (go_at_call 152; exact Calls.lat (cD _))))); (refine wpQuiet_nil ?_); (intro W hE'); (replace hE := lat_of hE'); (clear hE')
    go_wp2_with fail
    go_ret
    exact ⟨ret_bool Hs.out.symm, hE0.trans hE⟩
  · rw [hd] at cD
    obtain ⟨h1, h2⟩ := Bool.and_eq_true_iff.1 (drF_sets hd)
    obtain ⟨a, rfl, -, ha, hgr⟩ := isSetB_nat h1
    obtain ⟨b, rfl, -, hb', -⟩ := isSetB_nat h2
    have Hs := Lib.hid (tilF_yes hd)
    have Hgr := Lib.hid hgr
    have hob := ord_bd hgr
    have hs1 := ishl_one (n := ord l) (by omega)
    have hpw := pw_le (n := ord l) hob.2
    have hpw1 := pw_pos (ord l)
    have hwr : ((pw (ord l) : Nat) : Int) - 1 = ((fullN l : Nat) : Int) := by unfold fullN; omega
    clear hgr h1 h2 hd
    go_enter Try.func205, Try.ntmps205
    go_wp2_with fail
    rw [← Hwb.out]
    (refine wp_region_lat (wb) (by kernel_rfl) (by kernel_rfl) hE ?_); (repeat (go_big_quiet_step (first | (go_at_call 152; exact Calls.lat (cD _)) | (go_at_call 142; exact Calls.lat (l4Sum_any _ _ _ _ _ (hg _ (lat_ext wb _)) (Hgr) (ha) (hb'))) | (go_at_call 106; exact Calls.lat (l2Order_any _ _ _ (hg _ (lat_ext wb _)) (Hgr)))))); (refine wpQuiet_nil ?_); (intro W hE'); (replace hE := lat_of hE'); (clear hE')
    go_wp2_with fail
    go_ret
    exact ⟨ret_bool Hs.out.symm, hE0.trans hE⟩
def knI (l : List Int) (a b : Int) : Int := if fullB l a b then knF l a.toNat b.toNat else -1
theorem knI_no {l : List Int} {a b : Int} (h : fullB l a b = false) : knI l a b = -1 := by unfold knI; rw [h]; rfl
theorem knI_yes {l : List Int} {a b : Nat} (h : fullB l a b = true) : knI l a b = knF l a b := by unfold knI; rw [h]; rfl
theorem sEnergyOf_any (v : Value) (l : List Int) (a b : Int) (w : World) (h : Ints w v l) :
    Calls Try.prog 29 #[.agg #[v], .int .i64 a, .int .i64 b] w fun e w' => e = .returned (.int .i64 (enF l a b)) ∧ Ext w w' := by
  obtain ⟨wb, hwb⟩ : ∃ wb, wb = w.alloc (.cells #[v] 31) := ⟨_, rfl⟩
  have hE0 := (Ext.refl w).alloc (.cells #[v] 31)
  have hb := box_cell w v 31
  rw [← hwb] at hE0 hb
  have hg : ∀ W, Ext wb W → Ints W v l := fun W hW => h.ext (hE0.trans hW)
  have hE := Ext.refl wb
  have Hsz : Hid (w.heap.size + 1 = wb.heap.size) := Lib.hid (by rw [hwb]; simp [go_sem])
  have Hwb := Lib.hid hwb
  clear hwb h
  cases hs : (isSetB l a && isSetB l b)
  · have Hs := Lib.hid (enF_no hs)
    have Ht : Hid (tabF l a b = []) := Lib.hid (by unfold tabF; rw [hs]; rfl)
    clear hs
    go_enter Try.func29, Try.ntmps29
    go_wp2_with fail
    rw [← Hwb.out]
    refine (sSumTable_any _ _ _ _ _ (hg _ hE)).mono ?_
    rw [Ht.out]
    rintro e w1 ⟨v1, rfl, hL, hE1⟩
    obtain ⟨ao, c, rfl, -⟩ := hL.shape
    rw [show ([] : List Int).length = 0 from rfl] at hL ⊢
    go_wp2_with fail
    go_ret
    exact ⟨ret_int Hs.out.symm, hE0.trans (hE.trans hE1)⟩
  · obtain ⟨h1, h2⟩ := Bool.and_eq_true_iff.1 hs
    obtain ⟨a, rfl, -, ha, hgr⟩ := isSetB_nat h1
    obtain ⟨b, rfl, -, hb', -⟩ := isSetB_nat h2
    have Hs := Lib.hid (enF_yes hs)
    have Ht := Lib.hid (tabF_N hs)
    have Hgr := Lib.hid hgr
    have hob := ord_bd hgr
    have hne : (((ord l : Nat) : Int) == 0) = false := by rw [beq_eq_false_iff_ne]; omega
    clear hs hgr h1 h2
    go_enter Try.func29, Try.ntmps29
    go_wp2_with fail
    rw [← Hwb.out]
    refine (sSumTable_any _ _ _ _ _ (hg _ hE)).mono ?_
    rw [Ht.out]
    rintro e w1 ⟨v1, rfl, hL, hE1⟩
    have hLs := hL.ints
    obtain ⟨ao, c, adr, rfl, hlen, hadr, hcell⟩ := hLs.op
    have hix := ints_index (c := c) elI szI hadr
    rw [tabN_len] at hcell hlen hix ⊢
    clear hadr hL hLs
    have hEb := hE.trans hE1
    clear hE hE1
    have hE := Ext.refl w1
    go_wp2_with fail
    go_loopw [8, 9] (fun nv i wr => ∃ k : Nat, k ≤ ord l ∧ i = .int .i64 k ∧ nv = .int .i64 (sqTo (tabN l a b) k) ∧ Ext w1 wr) (fun _ i _ => ord l - (intOf i).toNat)
    case atStart => exact ⟨0, by omega, rfl, rfl, hE⟩
    case round =>
      clear hE
      obtain ⟨k, hk, rfl, rfl, hE⟩ := hrel
      by_cases hlt : k < ord l
      · have hck := fun U => hcell k _ hlt (lat_ext w1 U)
        have hsq := Lib.hid (sqTo_succ (tabN l a b) k)
        have hb1 := sqTo_bd Hgr.out a b k
        obtain ⟨hb2, hb3⟩ := tabN_bd Hgr.out a b k
        obtain ⟨hb4, hb5⟩ := sq_bd hb2 hb3
        go_wp2_with fail
        (refine wp_region_lat (w1) (by kernel_rfl) (by kernel_rfl) hE ?_); (repeat (go_big_quiet_step (first | fail))); (refine wpQuiet_nil ?_); (intro W hE'); (replace hE := lat_of hE'); (clear hE')
        go_wp2_with fail
        go_roundw
        case rel => exact ⟨k + 1, by omega, by go_num, by rw [hsq.out], hE⟩
        case measure => (simp [intOf]; omega)
      · have hkl : k = ord l := by omega
        subst hkl
        go_wp2_with fail
        go_ret
        exact ⟨ret_int (by rw [Hs.out]), hE0.trans (hEb.trans hE)⟩
end Go.Zz

/- numbers and short of the program. -/
namespace Go.Zz
open Go.RowKit Go.Proofs
set_option maxHeartbeats 400000
set_option maxRecDepth 4000

theorem jn_congr (s : ByteArray) (f g : Nat → ByteArray) : ∀ k, (∀ i, i < k → f i = g i) → jn s f k = jn s g k := by
  intro k
  induction k with
  | zero => intro _; rfl
  | succ k ih => intro h; unfold jn; rw [ih fun i hi => h i (by omega), h k (by omega)]
theorem nthS_map (l : List Int) (i : Nat) (h : i < l.length) : nthS (l.map fmtB) i = fmtB (nth l i) := by
  simp [nthS, nth, List.getD, h]
def numF (l : List Int) : ByteArray := if l.length = 0 then ⟨#[110, 111, 110, 101]⟩ else jn comma (fun i => fmtB (nth l i)) l.length
theorem take_fmt (l : List Int) (k : Nat) (h : k < l.length) : (l.take (k + 1)).map fmtB = (l.take k).map fmtB ++ [fmtB (nth l k)] := by
  rw [List.take_add_one, List.map_append]
  simp [nth, List.getD, h]
theorem numbers_any (v : Value) (l : List Int) (w : World) (h : Ints w v l) (hr : ∀ i, i < l.length → -1 ≤ nth l i ∧ nth l i < 1000000000000) (hl : l.length ≤ 1000) :
    Calls Try.prog 99 #[v] w fun e w' => e = .returned (.string (numF l)) ∧ Ext w w' := by
  obtain ⟨ao, c, adr, rfl, hlen, hadr, hcell⟩ := h.op
  have hix := ints_index (c := c) elI szI hadr
  clear hadr h
  have Hr := Lib.hid hr
  clear hr
  have hO0 := ownS_made (Ext.refl w)
  have hE0 := (Ext.refl w).alloc (.cells #[] 9)
  by_cases h0 : l.length = 0
  · have He : Hid (numF l = ⟨#[110, 111, 110, 101]⟩) := Lib.hid (by unfold numF; rw [if_pos h0])
    go_enter Try.func99, Try.ntmps99
    go_wp2_with fail
    go_ret
    exact ⟨ret_str He.out.symm, Ext.refl _⟩
  · have h00 : ((l.length : Int) == 0) = false := by rw [beq_eq_false_iff_ne]; omega
    have He : Hid (numF l = jn comma (nthS (l.map fmtB)) (l.map fmtB).length) := Lib.hid (by
      unfold numF; rw [if_neg h0, List.length_map]
      exact jn_congr _ _ _ _ fun i hi => (nthS_map l i hi).symm)
    go_enter Try.func99, Try.ntmps99
    go_wp2_with fail
    go_loopw [3, 12] (fun v i wr => ∃ k : Nat, k ≤ l.length ∧ i = .int .i64 k ∧ OwnS w wr v ((l.take k).map fmtB) ∧ Ext w wr) (fun _ i _ => l.length - (intOf i).toNat)
    case atStart => exact ⟨0, by omega, rfl, hO0, hE0⟩
    case round =>
      obtain ⟨k, hk, rfl, hO, hE⟩ := hrel
      by_cases hlt : k < l.length
      · have hck := hcell k _ hlt hE
        have hrk := Hr.out k hlt
        have hcI := FormatInt_any (nth l k) hrk
        have hlk : ((l.take k).map fmtB).length < 1000000 := by rw [List.length_map, List.length_take]; omega
        go_wp2_with (first | (go_at_call 100; with_reducible refine (hcI _).mono ?_; rintro e wc ⟨rfl, hEc⟩) | (at_builtin; refine wp_append1S rfl _ _ rfl w _ _ _ _ (hO.ext hEc) (hE.trans hEc) hlk rfl rfl ?_; intro v1 w1 hO1 hE1))
        go_roundw
        case rel => exact ⟨k + 1, by omega, by go_num, by rw [take_fmt _ _ hlt]; exact hO1, hE1⟩
        case measure => (simp [intOf]; omega)
      · have hkl : k = l.length := by omega
        subst hkl
        rw [List.take_length] at hO
        have hS := hO.strs
        have hc := glued_any _ (l.map fmtB) comma _ hS (by decide) (fun i hi => by
          rw [List.length_map] at hi
          rw [nthS_map l i hi]; exact fmtB_size (Hr.out i hi))
        go_wp2_with (refine hc.mono ?_; rintro e w1 ⟨rfl, rfl⟩)
        go_ret
        exact ⟨ret_str (by rw [He.out, List.length_map]), hE⟩
theorem shortF_eq (l : List Int) (h : l.length ≤ 40) : shortF l = numF (l.map clampF) := by
  unfold shortF numF
  rw [List.length_map]
  by_cases h0 : l.length = 0
  · rw [if_pos (Or.inl h0), if_pos h0]
  · rw [if_neg (by omega), if_neg h0]
    exact jn_congr _ _ _ _ fun i hi => by simp [clS, nth, List.getD, hi]
theorem take_clamp (l : List Int) (k : Nat) (h : k < l.length) : (l.take (k + 1)).map clampF = (l.take k).map clampF ++ [clampF (nth l k)] := by
  rw [List.take_add_one, List.map_append]
  simp [nth, List.getD, h]
theorem nth_map_clamp (l : List Int) (i : Nat) (h : i < (l.map clampF).length) : -1 ≤ nth (l.map clampF) i ∧ nth (l.map clampF) i < 1000000000000 := by
  rw [List.length_map] at h
  have e : nth (l.map clampF) i = clampF (nth l i) := by simp [nth, List.getD, h]
  rw [e]; exact clampF_in _
end Go.Zz

/- FormatSet of the program. -/
namespace Go.Zz
open Go.RowKit Go.Proofs
set_option maxHeartbeats 400000
set_option maxRecDepth 4000

def fsF (l : List Int) (a : Int) : ByteArray := if isSetB l a then numF (castL (elems a.toNat)) else ⟨#[]⟩
theorem fsF_no {l : List Int} {a : Int} (h : isSetB l a = false) : fsF l a = ⟨#[]⟩ := by unfold fsF; rw [h]; rfl
theorem fsF_nat {l : List Int} {n : Nat} (h : isSetB l n = true) : fsF l n = numF (castL (elems n)) := by unfold fsF; rw [h]; rfl
theorem elems_in (n i : Nat) (h : i < (castL (elems n)).length) : -1 ≤ nth (castL (elems n)) i ∧ nth (castL (elems n)) i < 1000000000000 := by
  rw [castL_len] at h
  have e : nth (castL (elems n)) i = ((elems n)[i] : Int) := by simp [nth, castL, List.getD, h]
  have := elems_lt (List.getElem_mem h)
  rw [e]; omega
--%call FormatSet 120 ext FormatSet_any _ _ _ _ ({0})
theorem FormatSet_any (v : Value) (l : List Int) (a : Int) (w : World) (h : Ints w v l) :
    Calls Try.prog 120 #[.agg #[v], .int .i64 a] w fun e w' => e = .returned (.string (fsF l a)) ∧ Ext w w' := by
  have hE0 := (Ext.refl w).alloc (.cells #[v] 31)
  have hE := Ext.refl (w.alloc (.cells #[v] 31))
  have hb := box_cell w v 31
  have hg : ∀ W, Ext (w.alloc (.cells #[v] 31)) W → Ints W v l := fun W hW => h.ext (hE0.trans hW)
  clear h
  cases hs : isSetB l a
  · have He := Lib.hid (fsF_no hs)
    go_enter Try.func120, Try.ntmps120
    go_wp2_with (first | (go_at_call 134; refine (IsSet_any _ _ _ _ (hg _ hE)).mono ?_; rintro e w' ⟨rfl, hE'⟩; replace hE := hE.trans hE'; clear hE'))
    go_ret
    exact ⟨ret_str He.out.symm, hE0.trans hE⟩
  · obtain ⟨n, rfl, -, hn, -⟩ := isSetB_nat hs
    have He := Lib.hid (fsF_nat hs)
    have hc := fun v W (hI : Ints W v (castL (elems n))) => numbers_any v (castL (elems n)) W hI (elems_in n) (by rw [castL_len]; have := elems_len n; omega)
    go_enter Try.func120, Try.ntmps120
    go_wp2_with (first | (go_at_call 134; refine (IsSet_any _ _ _ _ (hg _ hE)).mono ?_; rintro e w' ⟨rfl, hE'⟩; replace hE := hE.trans hE'; clear hE') | (go_at_call 169; refine (members_any _ (hn) _).mono ?_; rintro e w1 ⟨v1, rfl, hL, hE1⟩; obtain ⟨aoL, cL, adrL, rfl, hadrL, hcellL⟩ := hL.ints.nats; have hixL := ints_index (c := cL) elI szI hadrL; clear hadrL) | (go_at_call 99; refine (hc _ _ hL.ints).mono ?_; rintro e w2 ⟨rfl, hE2⟩))
    go_ret
    exact ⟨ret_str He.out.symm, ((hE0.trans hE).trans hE1).trans hE2⟩
end Go.Zz
