/- Generated subgroups, hulls, covers. -/
import Derived.Test.YtgkojfjbfmpaaaaGr7
namespace Go.Zz
open Go.RowKit Go.Proofs
set_option maxHeartbeats 400000

--%call generated 170 ext generated_any _ _ _ _ ({0}) ({1}) ({2})
theorem generated_any (v : Value) (l : List Int) (a : Nat) (w : World) (h : Ints w v l) (Hgr : Hid (isGrp l = true)) (ha : a < 2 ^ 24) :
    Calls Try.prog 170 #[.agg #[v], .int .i64 a] w fun e w' => e = .returned (.int .i64 (genF l a)) ∧ Ext w w' := by
  obtain ⟨wb, hwb⟩ : ∃ wb, wb = w.alloc (.cells #[v] 26) := ⟨_, rfl⟩
  have hE0 := (Ext.refl w).alloc (.cells #[v] 26)
  have hb := box_cell w v 26
  rw [← hwb] at hE0 hb
  have hg : ∀ W, Ext wb W → Ints W v l := fun W hW => h.ext (hE0.trans hW)
  have hE := Ext.refl wb
  have Hsz : Hid (w.heap.size + 1 = wb.heap.size) := Lib.hid (by rw [hwb]; simp [go_sem])
  have Hwb := Lib.hid hwb
  clear hwb h
  have hgb := genF_bd Hgr.out a
  have ho := oppF_bd Hgr.out a
  have Hone := Lib.hid (genF_one l a)
  go_enter Try.func170, Try.ntmps170
  go_wp2_with fail
  rw [← Hwb.out]
  go_loopw [5] (fun hv wr => ∃ h : Nat, Sub 1 h ∧ Sub h (genF l a) ∧ hv = .int .i64 h ∧ Ext wb wr) (fun hv _ => 16777216 - (intOf hv).toNat)
  case atStart => exact ⟨1, Sub.refl 1, Hone.out, rfl, hE⟩
  case round =>
    clear hE
    obtain ⟨h, h1, h2, rfl, hE⟩ := hrel
    have hbx := fun U => hb _ (lat_ext wb U)
    have hh := sub_bd hgb h2
    have hs1 := sumF_bd Hgr.out h a
    have hs2 := sumF_bd Hgr.out h (oppF l a)
    have i1 := ior_nat (a := h) (b := sumF l h a) (by omega) (by omega)
    have ho1 : h ||| sumF l h a < 2 ^ 24 := Nat.or_lt_two_pow hh hs1
    have i2 := ior_nat (a := h ||| sumF l h a) (b := sumF l h (oppF l a)) (by omega) (by omega)
    have hN2 := grow2_sub Hgr.out h2
    have hN1 := grow2_le l a h
    have hend := grow2_end h1 h2
    have hNb := sub_bd hgb hN2
    rw [show h ||| sumF l h a ||| sumF l h (oppF l a) = grow2 l a h from rfl] at i2
    generalize grow2 l a h = N at i2 hN2 hN1 hend hNb
    have H1 := Lib.hid h1
    have H2 := Lib.hid h2
    have HN1 := Lib.hid hN1
    have HN2 := Lib.hid hN2
    have He := Lib.hid hend
    clear h1 h2 hN1 hN2 hend
    by_cases hq : N = h
    · have hq' : ((N : Int) == (h : Int)) = true := by simp [hq]
      have Hq := Lib.hid hq
      clear hq
      go_wp2_with fail
      (refine wp_region_lat (wb) (by kernel_rfl) (by kernel_rfl) hE ?_); (repeat (go_big_quiet_step (first | (go_at_call 72; exact Calls.lat (sum_any _ _ _ _ _ (hg _ (lat_ext wb _)) (Hgr) (hh) (ha))) | (go_at_call 72; exact Calls.lat (sum_any _ _ _ _ _ (hg _ (lat_ext wb _)) (Hgr) (hh) (ho))) | (go_at_call 93; exact Calls.lat (opposite_any _ _ _ _ (hg _ (lat_ext wb _)) (Hgr) (ha)))))); (refine wpQuiet_nil ?_); (intro W hE'); (replace hE := lat_of hE'); (clear hE')
      go_wp2_with fail
      go_ret
      exact ⟨ret_int (by rw [← He.out Hq.out]), hE0.trans hE⟩
    · have hq' : ((N : Int) == (h : Int)) = false := by simp; omega
      have Hlt := Lib.hid (sub_lt hNb HN1.out (fun e => hq e.symm)).1
      clear hq
      go_wp2_with fail
      (refine wp_region_lat (wb) (by kernel_rfl) (by kernel_rfl) hE ?_); (repeat (go_big_quiet_step (first | (go_at_call 72; exact Calls.lat (sum_any _ _ _ _ _ (hg _ (lat_ext wb _)) (Hgr) (hh) (ha))) | (go_at_call 72; exact Calls.lat (sum_any _ _ _ _ _ (hg _ (lat_ext wb _)) (Hgr) (hh) (ho))) | (go_at_call 93; exact Calls.lat (opposite_any _ _ _ _ (hg _ (lat_ext wb _)) (Hgr) (ha)))))); (refine wpQuiet_nil ?_); (intro W hE'); (replace hE := lat_of hE'); (clear hE')
      go_wp2_with fail
      go_roundw
      case rel => exact ⟨N, H1.out.trans HN1.out, HN2.out, rfl, hE⟩
      case measure => (simp [intOf]; have := Hlt.out; omega)
--%call l5Closure 167 ext l5Closure_any _ _ _ _ ({0}) ({1}) ({2})
theorem l5Closure_any (v : Value) (l : List Int) (a : Nat) (w : World) (h : Ints w v l) (Hgr : Hid (isGrp l = true)) (ha : a < 2 ^ 24) :
    Calls Try.prog 167 #[.agg #[v], .int .i64 a] w fun e w' => e = .returned (.int .i64 (genF l a)) ∧ Ext w w' := by
  obtain ⟨wb, hwb⟩ : ∃ wb, wb = w.alloc (.cells #[v] 26) := ⟨_, rfl⟩
  have hE0 := (Ext.refl w).alloc (.cells #[v] 26)
  have hb := box_cell w v 26
  rw [← hwb] at hE0 hb
  have hg : ∀ W, Ext wb W → Ints W v l := fun W hW => h.ext (hE0.trans hW)
  have hE := Ext.refl wb
  have Hsz : Hid (w.heap.size + 1 = wb.heap.size) := Lib.hid (by rw [hwb]; simp [go_sem])
  have Hwb := Lib.hid hwb
  clear hwb h
  have hbx := hb wb hE
  have hgb := genF_bd Hgr.out a
  have Hone := Lib.hid (genF_one l a)
  have h1b : (1 : Nat) < 2 ^ 24 := by omega
  have hs1 := sumF_bd Hgr.out 1 a
  have i1 := ior_nat (a := 1) (b := sumF l 1 a) (by omega) (by omega)
  go_enter Try.func167, Try.ntmps167
  go_wp2_with fail
  rw [← Hwb.out]
  go_wp2_with (first | (go_at_call 74; refine (l4Sum_any _ _ _ _ _ (hg _ hE) (Hgr) (h1b) (ha)).mono ?_; rintro e w' ⟨rfl, hE'⟩; replace hE := hE.trans hE'; clear hE'))
  clear hbx hs1
  go_loopw [5, 6] (fun hv nv wr => ∃ h : Nat, Sub 1 h ∧ Sub h (genF l a) ∧ hv = .int .i64 h ∧ nv = .int .i64 (grow l a h : Nat) ∧ Ext wb wr) (fun hv _ _ => 16777216 - (intOf hv).toNat)
  case atStart => exact ⟨1, Sub.refl 1, Hone.out, rfl, by unfold grow; rw [← i1]; rfl, hE⟩
  case round =>
    clear hE i1
    obtain ⟨h, h1, h2, rfl, rfl, hE⟩ := hrel
    have hbx := hb _ hE
    have hh := sub_bd hgb h2
    have hN2 := grow_sub Hgr.out h2
    have hN1 : Sub h (grow l a h) := Sub.or_left _ _
    have hend := grow_end h1 h2
    have hNb := sub_bd hgb hN2
    generalize grow l a h = N at hN2 hN1 hend hNb ⊢
    have hs1 := sumF_bd Hgr.out N a
    have i1 := ior_nat (a := N) (b := sumF l N a) (by omega) (by omega)
    have Hi : Hid (N ||| sumF l N a = grow l a N) := Lib.hid rfl
    have H1 := Lib.hid h1
    have H2 := Lib.hid h2
    have HN1 := Lib.hid hN1
    have HN2 := Lib.hid hN2
    have He := Lib.hid hend
    clear h1 h2 hN1 hN2 hend
    by_cases hq : N = h
    · have hq' : ((N : Int) != (h : Int)) = false := by simp [hq]
      have Hq := Lib.hid hq
      clear hq
      go_wp2_with fail
      go_ret
      exact ⟨ret_int (by rw [← He.out Hq.out]), hE0.trans hE⟩
    · have hq' : ((N : Int) != (h : Int)) = true := by simp; omega
      have Hlt := Lib.hid (sub_lt hNb HN1.out (fun e => hq e.symm)).1
      clear hq
      go_wp2_with (first | (go_at_call 74; refine (l4Sum_any _ _ _ _ _ (hg _ hE) (Hgr) (hNb) (ha)).mono ?_; rintro e w' ⟨rfl, hE'⟩; replace hE := hE.trans hE'; clear hE'))
      go_roundw
      case rel => exact ⟨N, H1.out.trans HN1.out, HN2.out, rfl, by rw [Hi.out], hE⟩
      case measure => (simp [intOf]; have := Hlt.out; omega)

--%call AffineHull 181 ext AffineHull_any _ _ _ _ ({0})
theorem AffineHull_any (v : Value) (l : List Int) (a : Int) (w : World) (h : Ints w v l) :
    Calls Try.prog 181 #[.agg #[v], .int .i64 a] w fun e w' => e = .returned (.int .i64 (hullF l a)) ∧ Ext w w' := by
  obtain ⟨wb, hwb⟩ : ∃ wb, wb = w.alloc (.cells #[v] 26) := ⟨_, rfl⟩
  have hE0 := (Ext.refl w).alloc (.cells #[v] 26)
  have hb := box_cell w v 26
  rw [← hwb] at hE0 hb
  have hg : ∀ W, Ext wb W → Ints W v l := fun W hW => h.ext (hE0.trans hW)
  have hE := Ext.refl wb
  have Hsz : Hid (w.heap.size + 1 = wb.heap.size) := Lib.hid (by rw [hwb]; simp [go_sem])
  have Hwb := Lib.hid hwb
  clear hwb h
  have hbx := hb wb hE
  cases hs : isSetB l a
  · have Hs := Lib.hid (hullF_no (isOneB_no hs))
    go_enter Try.func181, Try.ntmps181
    go_wp2_with fail
    rw [← Hwb.out]
    go_wp2_with (first | (go_at_call 66; refine (IsSet_any _ _ _ _ (hg _ hE)).mono ?_; rintro e w' ⟨rfl, hE'⟩; replace hE := hE.trans hE'; clear hE'))
    go_ret
    exact ⟨ret_int Hs.out.symm, hE0.trans hE⟩
  · obtain ⟨n, rfl, h1, h2, hgr⟩ := isSetB_nat hs
    by_cases h0 : n = 0
    · subst h0
      have Hs := Lib.hid (hullF_no (isOneB_zero l))
      go_enter Try.func181, Try.ntmps181
      go_wp2_with fail
      rw [← Hwb.out]
      go_wp2_with (first | (go_at_call 66; refine (IsSet_any _ _ _ _ (hg _ hE)).mono ?_; rintro e w' ⟨rfl, hE'⟩; replace hE := hE.trans hE'; clear hE'))
      go_ret
      exact ⟨ret_int (by have := Hs.out; simp_all), hE0.trans hE⟩
    · have Hs := Lib.hid (hullF_yes (isOneB_yes hs (by omega)))
      obtain ⟨l1, l2, l3, l4⟩ := lowN_first h0 h2
      have h0' : ((n : Int) == 0) = false := by simp; omega
      have Hgr := Lib.hid hgr
      have hn := negF_bd hgr (lowN n)
      have hs1 := shiftF_bd hgr n (negF l (lowN n))
      have hs2 := genF_bd hgr (shiftF l n (negF l (lowN n)))
      clear hgr h0
      go_enter Try.func181, Try.ntmps181
      go_wp2_with fail
      rw [← Hwb.out]
      go_wp2_with (first | (go_at_call 66; refine (IsSet_any _ _ _ _ (hg _ hE)).mono ?_; rintro e w' ⟨rfl, hE'⟩; replace hE := hE.trans hE'; clear hE') | (go_at_call 139; refine (members_any n h2 _).mono ?_; rintro e w1 ⟨v1, rfl, hL, hE1⟩; replace hE := hE.trans hE1; obtain ⟨aoL, cL, adrL, rfl, hadrL, hcellL⟩ := hL.ints.nats; have hixL := ints_index (c := cL) elI szI hadrL; clear hadrL; have hck := hcellL 0 _ l2 (Ext.refl _); rw [l1] at hck; have hix0 : ∀ W, (Instr.indexAt 24 (.slice aoL (elems n).length cL) (.int .i64 0)).run Try.prog W = .ok (.pointer (some (adrL 0))) W := fun W => hixL 0 W l2))
      replace hbx := fun U => hb _ (lat_ext wb U)
      (refine wp_region_lat (wb) (by kernel_rfl) (by kernel_rfl) hE ?_); (repeat (go_big_quiet_step (first | (go_at_call 149; exact Calls.lat (negate_any _ _ _ _ (hg _ (lat_ext wb _)) (Hgr) ((by omega)))) | (go_at_call 87; exact Calls.lat (shift_any _ _ _ _ _ (hg _ (lat_ext wb _)) (Hgr) (h2) (hn))) | (go_at_call 87; exact Calls.lat (shift_any _ _ _ _ _ (hg _ (lat_ext wb _)) (Hgr) (hs2) (l4))) | (go_at_call 170; exact Calls.lat (generated_any _ _ _ _ (hg _ (lat_ext wb _)) (Hgr) (hs1)))))); (refine wpQuiet_nil ?_); (intro W hE'); (replace hE := lat_of hE'); (clear hE')
      go_wp2_with fail
      go_ret
      exact ⟨ret_int (by rw [Hs.out]; rfl), hE0.trans hE⟩
--%call l5Low 178 same l5Low_any _ ({0}) ({1}) _
theorem l5Low_any (a : Nat) (h0 : a ≠ 0) (ha : a < 2 ^ 24) (w : World) :
    Calls Try.prog 178 #[.int .i64 a] w fun e w' => e = .returned (.int .i64 (lowN a : Int)) ∧ w = w' := by
  obtain ⟨-, -, l3, l4⟩ := lowN_first h0 ha
  have L3 := Lib.hid l3
  clear l3
  go_enter Try.func178, Try.ntmps178
  go_wp2_with fail
  go_loop [3] (fun i => ∃ k : Nat, k ≤ lowN a ∧ (∀ j, j < k → a.testBit j = false) ∧ i = .int .i64 k) (fun i => 24 - (intOf i).toNat)
  case atStart => exact ⟨0, by omega, by omega, rfl⟩
  case round =>
    obtain ⟨k, hk, hall, rfl⟩ := hrel
    have Hall := Lib.hid hall
    clear hall
    have hsh := ishr_nat (a := a) (n := k) (by omega)
    have hle := shr_le a k
    cases hb : a.testBit k
    · have hm : shr a k % 2 = 0 := by
        rw [Nat.testBit_eq_decide_div_mod_eq, ← Nat.shiftRight_eq_div_pow] at hb
        have := of_decide_eq_false hb
        unfold shr; omega
      have hand : iand ((shr a k : Nat) : Int) 1 = 0 := by rw [iand_one (by omega), hm]; rfl
      have hne : k ≠ lowN a := by intro e; have := L3.out; rw [← e, hb] at this; cases this
      have Hb := Lib.hid hb
      clear hb hm
      go_wp2_with fail
      go_round
      case rel => exact ⟨k + 1, by omega, fun j hj => by by_cases e : j = k; (subst e; exact Hb.out); exact Hall.out j (by omega), by go_num⟩
      case measure => (simp [intOf]; omega)
    · have hm : shr a k % 2 = 1 := by
        rw [Nat.testBit_eq_decide_div_mod_eq, ← Nat.shiftRight_eq_div_pow] at hb
        exact of_decide_eq_true hb
      have hand : iand ((shr a k : Nat) : Int) 1 = 1 := by rw [iand_one (by omega), hm]; rfl
      have He := Lib.hid (lowN_at (by omega) Hall.out hb)
      clear hb hm
      go_wp2_with fail
      go_ret
      exact ⟨ret_int (by rw [He.out]), rfl⟩
end Go.Zz

/- Cosets of small doubling. -/
namespace Go.Zz
open Go.RowKit Go.Proofs
set_option maxHeartbeats 400000

def scD (l : List Int) (a : Int) : Int := if smallF l a then (sumF l a.toNat (oppF l a.toNat) : Int) else 0
def scS (l : List Int) (a : Int) : Int := if smallF l a then (sumF l a.toNat (sumF l a.toNat (oppF l a.toNat)) : Int) else 0
theorem sc_no {l : List Int} {a : Int} (h : smallF l a = false) : scD l a = 0 ∧ scS l a = 0 := by unfold scD scS; rw [h]; exact ⟨rfl, rfl⟩
theorem sc_yes {l : List Int} {n : Nat} (h : smallF l n = true) : scD l n = (sumF l n (oppF l n) : Int) ∧ scS l n = (sumF l n (sumF l n (oppF l n)) : Int) := by unfold scD scS; rw [h]; exact ⟨rfl, rfl⟩
theorem smallF_nat {l : List Int} {a : Int} (h : smallF l a = true) : ∃ n : Nat, a = n ∧ n < 2 ^ ord l ∧ n < 2 ^ 24 ∧ isGrp l = true ∧ isSetB l a = true := by
  unfold smallF at h
  have h1 := (Bool.and_eq_true_iff.1 (Bool.and_eq_true_iff.1 h).1).1
  obtain ⟨n, rfl, a, b, c⟩ := isSetB_nat h1
  exact ⟨n, rfl, a, b, c, h1⟩
end Go.Zz

/- Claims of cosets. -/
namespace Go.Zz
open Go.RowKit Go.Proofs
set_option maxHeartbeats 2000000
set_option maxRecDepth 20000

end Go.Zz

/- Claims of sums: stabilizers, pairs of Kneser's bound. -/
namespace Go.Zz
open Go.RowKit Go.Proofs
set_option maxHeartbeats 2000000
set_option maxRecDepth 20000

/-- the elements below k that shift a set onto itself -/
def stabTo (l : List Int) (a k : Nat) : Nat := bset ((List.range k).filter (fun x => decide (shiftF l a x = a)))
theorem stabTo_yes {l : List Int} {a k : Nat} (h : shiftF l a k = a) : stabTo l a (k + 1) = stabTo l a k ||| 2 ^ k := by
  unfold stabTo; rw [List.range_succ, List.filter_append]; simp only [List.filter_cons, List.filter_nil, h, decide_true, if_true]; exact bset_snoc _ _
theorem stabTo_no {l : List Int} {a k : Nat} (h : ¬ shiftF l a k = a) : stabTo l a (k + 1) = stabTo l a k := by
  unfold stabTo; rw [List.range_succ, List.filter_append]; simp [h]
theorem stabTo_lt (l : List Int) (a k : Nat) : stabTo l a k < 2 ^ k := bset_lt fun _ hx => List.mem_range.1 (List.mem_filter.1 hx).1
def stabF (l : List Int) (a : Nat) : Nat := stabTo l a (ord l)
theorem stabF_lt (l : List Int) (a : Nat) : stabF l a < 2 ^ ord l := stabTo_lt l a _
def fullB (l : List Int) (a b : Int) : Bool := isSetB l a && isSetB l b && !(a == 0) && !(b == 0)
theorem fullB_set {l : List Int} {a b : Int} (h : (isSetB l a && isSetB l b) = false) : fullB l a b = false := by unfold fullB; rw [h]; rfl
theorem fullB_nat {l : List Int} {a b : Int} (h : fullB l a b = true) : ∃ m n : Nat, a = m ∧ b = n ∧ m ≠ 0 ∧ n ≠ 0 ∧ m < 2 ^ ord l ∧ n < 2 ^ ord l ∧ m < 2 ^ 24 ∧ n < 2 ^ 24 ∧ isGrp l = true ∧ isSetB l a = true ∧ isSetB l b = true := by
  unfold fullB at h
  simp only [Bool.and_eq_true, Bool.not_eq_true', beq_eq_false_iff_ne] at h
  obtain ⟨⟨⟨h1, h2⟩, h3⟩, h4⟩ := h
  obtain ⟨m, rfl, a1, a2, hg⟩ := isSetB_nat h1
  obtain ⟨n, rfl, b1, b2, -⟩ := isSetB_nat h2
  exact ⟨m, n, rfl, rfl, by omega, by omega, a1, b1, a2, b2, hg, h1, h2⟩
theorem cnt_sum_ge {l : List Int} (h : isGrp l = true) {a b : Nat} (ha : a ≠ 0) (ha2 : a < 2 ^ ord l) (hb : b < 2 ^ ord l) : cnt b ≤ cnt (sumF l a b) := by
  obtain ⟨x, hx⟩ := bit_of_pos ha
  rw [← cnt_shift h hb x]
  refine cnt_mono fun i hi => ?_
  obtain ⟨y, hy, by_, rfl⟩ := testBit_shiftF.1 hi
  exact testBit_sumF.2 ⟨x, y, Nat.lt_of_lt_of_le (bit_lt ha2 hx) (ord_bd h).2, hx, hy, by_, rfl⟩

theorem StabilizerOf_nat (v : Value) (l : List Int) (a : Nat) (w : World) (h : Ints w v l) (hs : isSetB l a = true) :
    Calls Try.prog 112 #[.agg #[v], .int .i64 a] w fun e w' => e = .returned (.int .i64 (stabF l a : Nat)) ∧ Ext w w' := by
  obtain ⟨wb, hwb⟩ : ∃ wb, wb = w.alloc (.cells #[v] 26) := ⟨_, rfl⟩
  have hE0 := (Ext.refl w).alloc (.cells #[v] 26)
  have hb := box_cell w v 26
  rw [← hwb] at hE0 hb
  have hg : ∀ W, Ext wb W → Ints W v l := fun W hW => h.ext (hE0.trans hW)
  have hE := Ext.refl wb
  have Hsz : Hid (w.heap.size + 1 = wb.heap.size) := Lib.hid (by rw [hwb]; simp [go_sem])
  have Hwb := Lib.hid hwb
  clear hwb h
  obtain ⟨a', e1, -, ha2, hgr⟩ := isSetB_nat hs
  obtain rfl : a = a' := by omega
  have Hgr := Lib.hid hgr
  have hob := ord_bd hgr
  clear hgr e1
  go_enter Try.func112, Try.ntmps112
  go_wp2_with fail
  rw [← Hwb.out]
  go_wp2_with (first | (go_at_call 66; refine (IsSet_val _ _ _ _ (hg _ hE) (hs)).mono ?_; rintro e w' ⟨rfl, hE'⟩; replace hE := hE.trans hE'; clear hE') | (go_at_call 81; refine (OrderOf_grp _ _ _ (hg _ hE) (Hgr)).mono ?_; rintro e w' ⟨rfl, hE'⟩; replace hE := hE.trans hE'; clear hE'))
  clear hs
  go_loopw [5, 13] (fun ov xv wr => ∃ k : Nat, k ≤ ord l ∧ xv = .int .i64 k ∧ ov = .int .i64 (stabTo l a k : Nat) ∧ Ext wb wr) (fun _ x _ => ord l - (intOf x).toNat)
  case atStart => exact ⟨0, by omega, rfl, rfl, hE⟩
  case round =>
    clear hE
    obtain ⟨k, hk, rfl, rfl, hE⟩ := hrel
    have hbx := hb _ hE
    by_cases hlt : k < ord l
    · have hst : stabTo l a k < 2 ^ 24 := Nat.lt_of_lt_of_le (stabTo_lt l a k) (Nat.pow_le_pow_right (by omega) (by omega))
      have hsf := shiftF_bd Hgr.out a k
      have hs1 := ishl_one (n := k) (by omega)
      have hs2 := ior_pw hst (show k < 24 by omega)
      by_cases hq : shiftF l a k = a
      · have Hn := Lib.hid (stabTo_yes hq)
        have hqi : ((shiftF l a k : Int) == (a : Int)) = true := by rw [hq]; simp
        clear hq
        go_wp2_with (first | (go_at_call 87; refine (shift_any _ _ _ _ _ (hg _ hE) (Hgr) (ha2) ((by omega))).mono ?_; rintro e w' ⟨rfl, hE'⟩; replace hE := hE.trans hE'; clear hE'))
        go_roundw
        case rel => exact ⟨k + 1, by omega, by go_num, by rw [Hn.out], hE⟩
        case measure => (simp [intOf]; omega)
      · have Hn := Lib.hid (stabTo_no hq)
        have hqi : ((shiftF l a k : Int) == (a : Int)) = false := by simp; omega
        clear hq
        go_wp2_with (first | (go_at_call 87; refine (shift_any _ _ _ _ _ (hg _ hE) (Hgr) (ha2) ((by omega))).mono ?_; rintro e w' ⟨rfl, hE'⟩; replace hE := hE.trans hE'; clear hE'))
        go_roundw
        case rel => exact ⟨k + 1, by omega, by go_num, by rw [Hn.out], hE⟩
        case measure => (simp [intOf]; omega)
    · have hkl : k = ord l := by omega
      subst hkl
      go_wp2_with fail
      go_ret
      exact ⟨rfl, hE0.trans hE⟩
--%call l6Stabilizer 98 ext l6Stabilizer_any _ _ _ _ ({0}) ({1}) ({2})
theorem l6Stabilizer_any (v : Value) (l : List Int) (a : Nat) (w : World) (h : Ints w v l) (Hgr : Hid (isGrp l = true)) (ha2 : a < 2 ^ 24) :
    Calls Try.prog 98 #[.agg #[v], .int .i64 a] w fun e w' => e = .returned (.int .i64 (stabF l a : Nat)) ∧ Ext w w' := by
  obtain ⟨wb, hwb⟩ : ∃ wb, wb = w.alloc (.cells #[v] 26) := ⟨_, rfl⟩
  have hE0 := (Ext.refl w).alloc (.cells #[v] 26)
  have hb := box_cell w v 26
  rw [← hwb] at hE0 hb
  have hg : ∀ W, Ext wb W → Ints W v l := fun W hW => h.ext (hE0.trans hW)
  have hE := Ext.refl wb
  have Hsz : Hid (w.heap.size + 1 = wb.heap.size) := Lib.hid (by rw [hwb]; simp [go_sem])
  have Hwb := Lib.hid hwb
  clear hwb h
  have hob := ord_bd Hgr.out
  go_enter Try.func98, Try.ntmps98
  go_wp2_with fail
  rw [← Hwb.out]
  go_loopw [5, 6] (fun ov xv wr => ∃ k : Nat, k ≤ ord l ∧ xv = .int .i64 k ∧ ov = .int .i64 (stabTo l a k : Nat) ∧ Ext wb wr) (fun _ x _ => ord l - (intOf x).toNat)
  case atStart => exact ⟨0, by omega, rfl, rfl, hE⟩
  case round =>
    clear hE
    obtain ⟨k, hk, rfl, rfl, hE⟩ := hrel
    have hbx := hb _ hE
    by_cases hlt : k < ord l
    · have hst : stabTo l a k < 2 ^ 24 := Nat.lt_of_lt_of_le (stabTo_lt l a k) (Nat.pow_le_pow_right (by omega) (by omega))
      have hsf := shiftF_bd Hgr.out a k
      have hs1 := ishl_one (n := k) (by omega)
      have hs2 := ior_pw hst (show k < 24 by omega)
      by_cases hq : shiftF l a k = a
      · have Hn := Lib.hid (stabTo_yes hq)
        have hqi : ((shiftF l a k : Int) == (a : Int)) = true := by rw [hq]; simp
        clear hq
        go_wp2_with (first | (go_at_call 84; refine (l2Order_any _ _ _ (hg _ hE) (Hgr)).mono ?_; rintro e w' ⟨rfl, hE'⟩; replace hE := hE.trans hE'; clear hE') | (go_at_call 91; refine (l3Shift_any _ _ _ _ _ (hg _ hE) (Hgr) (ha2) ((by omega))).mono ?_; rintro e w' ⟨rfl, hE'⟩; replace hE := hE.trans hE'; clear hE'))
        go_roundw
        case rel => exact ⟨k + 1, by omega, by go_num, by rw [Hn.out], hE⟩
        case measure => (simp [intOf]; omega)
      · have Hn := Lib.hid (stabTo_no hq)
        have hqi : ((shiftF l a k : Int) == (a : Int)) = false := by simp; omega
        clear hq
        go_wp2_with (first | (go_at_call 84; refine (l2Order_any _ _ _ (hg _ hE) (Hgr)).mono ?_; rintro e w' ⟨rfl, hE'⟩; replace hE := hE.trans hE'; clear hE') | (go_at_call 91; refine (l3Shift_any _ _ _ _ _ (hg _ hE) (Hgr) (ha2) ((by omega))).mono ?_; rintro e w' ⟨rfl, hE'⟩; replace hE := hE.trans hE'; clear hE'))
        go_roundw
        case rel => exact ⟨k + 1, by omega, by go_num, by rw [Hn.out], hE⟩
        case measure => (simp [intOf]; omega)
    · have hkl : k = ord l := by omega
      subst hkl
      go_wp2_with (first | (go_at_call 84; refine (l2Order_any _ _ _ (hg _ hE) (Hgr)).mono ?_; rintro e w' ⟨rfl, hE'⟩; replace hE := hE.trans hE'; clear hE'))
      go_ret
      exact ⟨rfl, hE0.trans hE⟩
/-- the bound of Kneser, as the reference writes it -/
def knF (l : List Int) (a b : Nat) : Int := (cnt (sumF l a (stabF l (sumF l a b))) : Int) + cnt (sumF l b (stabF l (sumF l a b))) - cnt (stabF l (sumF l a b))
theorem knF_pos {l : List Int} (h : isGrp l = true) {a b : Nat} (ha : a ≠ 0) (ha2 : a < 2 ^ ord l) : 0 ≤ knF l a b := by
  have := cnt_sum_ge h ha ha2 (stabF_lt l (sumF l a b))
  unfold knF; omega
def kpH (l : List Int) (a b : Nat) : Nat := stabF l (sumF l a b)
def csK (l : List Int) (a b : Int) : Int := if fullB l a b then 1 else 0
def csA (l : List Int) (a b : Int) : Int := if fullB l a b then a else 0
def csB (l : List Int) (a b : Int) : Int := if fullB l a b then b else 0
def csS (l : List Int) (a b : Int) : Int := if fullB l a b then (sumF l a.toNat b.toNat : Int) else 0
def csP (l : List Int) (a b : Int) : Int := if fullB l a b then (kpH l a.toNat b.toNat : Int) else 0
def csG (l : List Int) (a b : Int) : List Int := if fullB l a b then l else []
theorem cs_no {l : List Int} {a b : Int} (h : fullB l a b = false) : csK l a b = 0 ∧ csA l a b = 0 ∧ csB l a b = 0 ∧ csS l a b = 0 ∧ csP l a b = 0 ∧ csG l a b = [] := by
  unfold csK csA csB csS csP csG; rw [h]; exact ⟨rfl, rfl, rfl, rfl, rfl, rfl⟩
theorem cs_yes {l : List Int} {a b : Nat} (h : fullB l a b = true) : csK l a b = 1 ∧ csA l a b = a ∧ csB l a b = b ∧ csS l a b = (sumF l a b : Int) ∧ csP l a b = (kpH l a b : Int) ∧ csG l a b = l := by
  unfold csK csA csB csS csP csG; rw [h]; exact ⟨rfl, rfl, rfl, rfl, rfl, rfl⟩
end Go.Zz

/- Progressions and their differences. -/
namespace Go.Zz
open Go.RowKit Go.Proofs
set_option maxHeartbeats 1000000

/-- the terms of a progression -/
def prCur (l : List Int) (s d : Nat) : Nat → Nat
  | 0 => s
  | k + 1 => addF l (prCur l s d k) d
def prSet (l : List Int) (s d n : Nat) : Nat := bset ((List.range n).map (prCur l s d))
theorem prSet_succ (l : List Int) (s d k : Nat) : prSet l s d (k + 1) = prSet l s d k ||| 2 ^ prCur l s d k := by
  unfold prSet; rw [List.range_succ, List.map_append]; exact bset_snoc _ _
theorem prCur_bd {l : List Int} (h : isGrp l = true) {s : Nat} (hs : s < 24) (d : Nat) : ∀ k, prCur l s d k < 24
  | 0 => hs
  | _ + 1 => addF_bd h _ _
theorem prSet_bd {l : List Int} (h : isGrp l = true) {s : Nat} (hs : s < 24) (d n : Nat) : prSet l s d n < 2 ^ 24 := by
  refine bset_lt fun x hx => ?_
  obtain ⟨k, _, rfl⟩ := List.mem_map.1 hx
  exact prCur_bd h hs d k
theorem progression_any (v : Value) (l : List Int) (s d n : Nat) (w : World) (h : Ints w v l) (Hgr : Hid (isGrp l = true)) (hs : s < 24) (hd : d < 24) (hn : n ≤ 24) :
    Calls Try.prog 195 #[.agg #[v], .int .i64 s, .int .i64 d, .int .i64 n] w fun e w' => e = .returned (.int .i64 (prSet l s d n : Nat)) ∧ Ext w w' := by
  obtain ⟨wb, hwb⟩ : ∃ wb, wb = w.alloc (.cells #[v] 26) := ⟨_, rfl⟩
  have hE0 := (Ext.refl w).alloc (.cells #[v] 26)
  have hb := box_cell w v 26
  rw [← hwb] at hE0 hb
  have hg : ∀ W, Ext wb W → Ints W v l := fun W hW => h.ext (hE0.trans hW)
  have hE := Ext.refl wb
  have Hsz : Hid (w.heap.size + 1 = wb.heap.size) := Lib.hid (by rw [hwb]; simp [go_sem])
  have Hwb := Lib.hid hwb
  clear hwb h
  go_enter Try.func195, Try.ntmps195
  go_wp2_with fail
  rw [← Hwb.out]
  go_loopw [1, 9, 11] (fun sv ov xv wr => ∃ k : Nat, k ≤ n ∧ xv = .int .i64 k ∧ sv = .int .i64 (prCur l s d k : Nat) ∧ ov = .int .i64 (prSet l s d k : Nat) ∧ Ext wb wr) (fun _ _ x _ => n - (intOf x).toNat)
  case atStart => exact ⟨0, by omega, rfl, rfl, rfl, hE⟩
  case round =>
    clear hE
    obtain ⟨k, hk, rfl, rfl, rfl, hE⟩ := hrel
    have hbx := hb _ hE
    by_cases hlt : k < n
    · have hc := prCur_bd Hgr.out hs d k
      have hp := prSet_bd Hgr.out hs d k
      have hs1 := ishl_one (n := prCur l s d k) (by omega)
      have hs2 := ior_pw hp hc
      have Hn := Lib.hid (prSet_succ l s d k)
      go_wp2_with (first | (go_at_call 140; refine (add_any _ _ _ _ _ (hg _ hE) (Hgr) ((by omega)) ((by omega))).mono ?_; rintro e w' ⟨rfl, hE'⟩; replace hE := hE.trans hE'; clear hE'))
      go_roundw
      case rel => exact ⟨k + 1, by omega, by go_num, rfl, by rw [Hn.out], hE⟩
      case measure => (simp [intOf]; omega)
    · have hkl : k = n := by omega
      subst hkl
      go_wp2_with fail
      go_ret
      exact ⟨rfl, hE0.trans hE⟩
theorem l10Progression_any (v : Value) (l : List Int) (s d n : Nat) (w : World) (h : Ints w v l) (Hgr : Hid (isGrp l = true)) (hs : s < 24) (hd : d < 24) (hn : n ≤ 24) :
    Calls Try.prog 194 #[.agg #[v], .int .i64 s, .int .i64 d, .int .i64 n] w fun e w' => e = .returned (.int .i64 (prSet l s d n : Nat)) ∧ Ext w w' := by
  obtain ⟨wb, hwb⟩ : ∃ wb, wb = w.alloc (.cells #[v] 26) := ⟨_, rfl⟩
  have hE0 := (Ext.refl w).alloc (.cells #[v] 26)
  have hb := box_cell w v 26
  rw [← hwb] at hE0 hb
  have hg : ∀ W, Ext wb W → Ints W v l := fun W hW => h.ext (hE0.trans hW)
  have hE := Ext.refl wb
  have Hsz : Hid (w.heap.size + 1 = wb.heap.size) := Lib.hid (by rw [hwb]; simp [go_sem])
  have Hwb := Lib.hid hwb
  clear hwb h
  go_enter Try.func194, Try.ntmps194
  go_wp2_with fail
  rw [← Hwb.out]
  go_loopw [10, 9, 11] (fun sv ov xv wr => ∃ k : Nat, k ≤ n ∧ xv = .int .i64 k ∧ sv = .int .i64 (prCur l s d k : Nat) ∧ ov = .int .i64 (prSet l s d k : Nat) ∧ Ext wb wr) (fun _ _ x _ => n - (intOf x).toNat)
  case atStart => exact ⟨0, by omega, rfl, rfl, rfl, hE⟩
  case round =>
    clear hE
    obtain ⟨k, hk, rfl, rfl, rfl, hE⟩ := hrel
    have hbx := hb _ hE
    by_cases hlt : k < n
    · have hc := prCur_bd Hgr.out hs d k
      have hp := prSet_bd Hgr.out hs d k
      have hs1 := ishl_one (n := prCur l s d k) (by omega)
      have hs2 := ior_pw hp hc
      have Hn := Lib.hid (prSet_succ l s d k)
      go_wp2_with (first | (go_at_call 138; refine (l2Add_any _ _ _ _ _ (hg _ hE) (Hgr) ((by omega)) ((by omega))).mono ?_; rintro e w' ⟨rfl, hE'⟩; replace hE := hE.trans hE'; clear hE'))
      go_roundw
      case rel => exact ⟨k + 1, by omega, by go_num, rfl, by rw [Hn.out], hE⟩
      case measure => (simp [intOf]; omega)
    · have hkl : k = n := by omega
      subst hkl
      go_wp2_with fail
      go_ret
      exact ⟨rfl, hE0.trans hE⟩
/-- whether a set is a progression by a step, from one of the elements of a list on -/
def diffL (l : List Int) (a d : Nat) (L : List Nat) : Bool := L.any (fun x => decide (prSet l x d (cnt a) = a))
def diffB (l : List Int) (a d : Nat) : Bool := diffL l a d (elems a)
def difTo (l : List Int) (a k : Nat) : List Nat := (List.range k).filter (diffB l a)
theorem difTo_yes {l : List Int} {a k : Nat} (h : diffB l a k = true) : difTo l a (k + 1) = difTo l a k ++ [k] := by
  unfold difTo; rw [List.range_succ, List.filter_append]; simp [h]
theorem difTo_no {l : List Int} {a k : Nat} (h : diffB l a k = false) : difTo l a (k + 1) = difTo l a k := by
  unfold difTo; rw [List.range_succ, List.filter_append]; simp [h]
theorem difTo_len (l : List Int) (a k : Nat) : (difTo l a k).length ≤ k := by
  unfold difTo; exact Nat.le_trans (List.length_filter_le _ _) (by simp)
def difF (l : List Int) (a : Int) : List Int := if isOneB l a then castL (difTo l a.toNat (ord l)) else []
theorem difF_no {l : List Int} {a : Int} (h : isOneB l a = false) : difF l a = [] := by unfold difF; rw [h]; rfl
theorem difF_yes {l : List Int} {n : Nat} (h : isOneB l n = true) : difF l n = castL (difTo l n (ord l)) := by unfold difF; rw [if_pos h]; rfl
theorem diffL_take {l : List Int} {a d : Nat} {L : List Nat} (h : ∀ j, j < L.length → prSet l (nthN L j) d (cnt a) ≠ a) : diffL l a d L = false := by
  unfold diffL
  rw [← Bool.not_eq_true, List.any_eq_true]
  rintro ⟨x, hx, hd⟩
  obtain ⟨j, hj, rfl⟩ := List.getElem_of_mem hx
  have := h j hj
  unfold nthN at this
  rw [List.getD_eq_getElem?_getD, List.getElem?_eq_getElem hj] at this
  exact this (of_decide_eq_true hd)
theorem diffL_at {l : List Int} {a d : Nat} {L : List Nat} {j : Nat} (hj : j < L.length) (h : prSet l (nthN L j) d (cnt a) = a) : diffL l a d L = true := by
  unfold diffL; rw [List.any_eq_true]; exact ⟨_, nthN_mem hj, decide_eq_true h⟩
end Go.Zz

/- Differences of progressions. -/
namespace Go.Zz
open Go.RowKit Go.Proofs
set_option maxHeartbeats 1000000
set_option maxRecDepth 20000

theorem DifferencesOf_any (v : Value) (l : List Int) (a : Int) (w : World) (h : Ints w v l) :
    Calls Try.prog 182 #[.agg #[v], .int .i64 a] w fun e w' => ∃ u, e = .returned u ∧ Own 3 w w' u (difF l a) ∧ Ext w w' := by
  obtain ⟨wb, hwb⟩ : ∃ wb, wb = w.alloc (.cells #[v] 26) := ⟨_, rfl⟩
  have hE0 := (Ext.refl w).alloc (.cells #[v] 26)
  have hb := box_cell w v 26
  rw [← hwb] at hE0 hb
  have hg : ∀ W, Ext wb W → Ints W v l := fun W hW => h.ext (hE0.trans hW)
  have hE := Ext.refl wb
  have Hsz : Hid (w.heap.size + 1 = wb.heap.size) := Lib.hid (by rw [hwb]; simp [go_sem])
  have Hwb := Lib.hid hwb
  clear hwb h
  obtain ⟨wc, hwc⟩ : ∃ wc, wc = wb.alloc (.cells #[] 3) := ⟨_, rfl⟩
  have hO : Own 3 wb wc (.slice (some ⟨wb.heap.size, 0, none⟩) 0 0) [] := by rw [hwc]; exact own_made (by omega) hE [] rfl
  replace hE : Ext wb wc := by rw [hwc]; exact hE.alloc _
  have Hsz2 : Hid (wb.heap.size + 1 = wc.heap.size) := Lib.hid (by rw [hwc]; simp [go_sem])
  have Hwc := Lib.hid hwc
  clear hwc
  cases hs : isSetB l a
  · have Hs := Lib.hid (difF_no (isOneB_no hs))
    go_enter Try.func182, Try.ntmps182
    go_wp2_with fail
    rw [← Hwb.out, ← Hwc.out]; rw [Hsz.out]; try rw [Hsz2.out]
    go_wp2_with (first | (go_at_call 66; refine Calls.mono (IsSet_val _ _ _ _ (hg _ (by repeat (first | assumption | exact Ext.refl _ | (apply And.left; assumption) | apply Ext.drew | apply Ext.alloc))) hs) ?_; rintro e w' ⟨rfl, hE'⟩; replace hO := hO.ext (Ext.trans (by repeat (first | assumption | exact Ext.refl _ | (apply And.left; assumption) | apply Ext.drew | apply Ext.alloc)) hE'); replace hE := hE.trans (Ext.trans (by repeat (first | assumption | exact Ext.refl _ | (apply And.left; assumption) | apply Ext.drew | apply Ext.alloc)) hE'); clear hE'))
    go_ret
    exact ⟨_, rfl, by rw [Hs.out]; exact hO.mono hE0, hE0.trans hE⟩
  · obtain ⟨n, rfl, h1, h2, hgr⟩ := isSetB_nat hs
    by_cases h0 : n = 0
    · subst h0
      have Hs := Lib.hid (difF_no (isOneB_zero l))
      go_enter Try.func182, Try.ntmps182
      go_wp2_with fail
      rw [← Hwb.out, ← Hwc.out]; rw [Hsz.out]; try rw [Hsz2.out]
      go_wp2_with (first | (go_at_call 66; refine Calls.mono (IsSet_val _ _ _ _ (hg _ (by repeat (first | assumption | exact Ext.refl _ | (apply And.left; assumption) | apply Ext.drew | apply Ext.alloc))) hs) ?_; rintro e w' ⟨rfl, hE'⟩; replace hO := hO.ext (Ext.trans (by repeat (first | assumption | exact Ext.refl _ | (apply And.left; assumption) | apply Ext.drew | apply Ext.alloc)) hE'); replace hE := hE.trans (Ext.trans (by repeat (first | assumption | exact Ext.refl _ | (apply And.left; assumption) | apply Ext.drew | apply Ext.alloc)) hE'); clear hE'))
      go_ret
      exact ⟨_, rfl, by have := Hs.out; rw [show ((0 : Nat) : Int) = 0 from rfl, this]; exact hO.mono hE0, hE0.trans hE⟩
    · have Hs := Lib.hid (difF_yes (isOneB_yes hs (by omega)))
      have h0' : ((n : Int) == 0) = false := by simp; omega
      have Hgr := Lib.hid hgr
      have hob := ord_bd hgr
      have hcn := cnt_le n
      clear hgr h0
      go_enter Try.func182, Try.ntmps182
      go_wp2_with fail
      rw [← Hwb.out, ← Hwc.out]; rw [Hsz.out]; try rw [Hsz2.out]
      go_wp2_with (first | (go_at_call 66; refine Calls.mono (IsSet_val _ _ _ _ (hg _ (by repeat (first | assumption | exact Ext.refl _ | (apply And.left; assumption) | apply Ext.drew | apply Ext.alloc))) hs) ?_; rintro e w' ⟨rfl, hE'⟩; replace hO := hO.ext (Ext.trans (by repeat (first | assumption | exact Ext.refl _ | (apply And.left; assumption) | apply Ext.drew | apply Ext.alloc)) hE'); replace hE := hE.trans (Ext.trans (by repeat (first | assumption | exact Ext.refl _ | (apply And.left; assumption) | apply Ext.drew | apply Ext.alloc)) hE'); clear hE') | (go_at_call 81; refine (OrderOf_grp _ _ _ (hg _ hE) Hgr).mono ?_; rintro e w' ⟨rfl, hE'⟩; replace hO := hO.ext hE'; replace hE := hE.trans hE'; clear hE'))
      clear hs h0'
      go_loopw [5, 21] (fun u x wr => ∃ k : Nat, k ≤ ord l ∧ x = .int .i64 k ∧ Own 3 wb wr u (castL (difTo l n k)) ∧ Ext wb wr) (fun _ x _ => ord l - (intOf x).toNat)
      case atStart => exact ⟨0, by omega, rfl, hO, hE⟩
      case round =>
        clear hE hO
        obtain ⟨k, hk, rfl, hO, hE⟩ := hrel
        by_cases hlt : k < ord l
        · have hln : (castL (difTo l n k)).length ≤ 24 := by rw [castL_len]; have := difTo_len l n k; omega
          go_wp2_with (first | (go_at_call 139; refine (members_any n h2 _).mono ?_; rintro e w1 ⟨v1, rfl, hL, hE1⟩; obtain ⟨aoL, cL, adrL, rfl, hadrL, hcellL⟩ := hL.ints.nats; have hixL := ints_index (c := cL) elI szI hadrL; clear hadrL))
          replace hO := hO.ext hE1
          replace hE := hE.trans hE1
          have hall : ∀ y ∈ elems n, y < 24 := fun y hy => elems_lt hy
          have hlen := elems_len n
          have Hdb : Hid (diffB l n k = diffL l n k (elems n)) := Lib.hid rfl
          clear hL hE1
          generalize elems n = L at hcellL hixL hall hlen Hdb ⊢
          have hEw := Ext.refl w1
          go_loopw [5, 27] (fun u i wq => ∃ j : Nat, j ≤ L.length ∧ i = .int .i64 j ∧ (∀ q, q < j → prSet l (nthN L q) k (cnt n) ≠ n) ∧ Own 3 wb wq u (castL (difTo l n k)) ∧ Ext w1 wq) (fun _ i _ => L.length - (intOf i).toNat)
          case atStart => exact ⟨0, by omega, rfl, by omega, hO, hEw⟩
          case round =>
            clear hO hEw
            obtain ⟨j, hj, rfl, hno, hO, hEw⟩ := hrel
            have Hno := Lib.hid hno
            clear hno
            have hEb := hE.trans hEw
            have hbx := lat_cell (hb _ hEb)
            by_cases hlt2 : j < L.length
            · have hck := hcellL j _ hlt2 hEw
              have hx24 := hall _ (nthN_mem hlt2)
              have hpb := prSet_bd Hgr.out hx24 k (cnt n)
              by_cases hq : prSet l (nthN L j) k (cnt n) = n
              · have Hn := Lib.hid (difTo_yes (by rw [Hdb.out]; exact diffL_at hlt2 hq))
                have hqi : ((prSet l (nthN L j) k (cnt n) : Int) == (n : Int)) = true := by rw [hq]; simp
                clear hq
                clear hE
                have hE := Ext.refl wr
                go_wp2_with fail
                (refine wp_region_lat (wr) (by kernel_rfl) (by kernel_rfl) hE ?_); (repeat (go_big_quiet_step (first | (go_at_call 83; exact Calls.lat_same (bits_any _ h2 _)) | (go_at_call 195; exact Calls.lat (progression_any _ _ _ _ _ _ (hg _ (hEb.trans (lat_ext wr _))) Hgr hx24 (by omega) hcn))))); (refine wpQuiet_nil ?_); (intro W hE'); (replace hE := lat_of hE'); (clear hE')
                replace hO := hO.ext hE
                replace hEb := hEb.trans hE
                replace hEw := hEw.trans hE
                go_wp2_with (at_builtin; refine wp_append1 slI rfl _ _ rfl wb _ _ _ _ hO hEb (by omega) rfl rfl ?_; intro v1 w1 hO1 hE1)
                go_roundw
                case rel => exact ⟨k + 1, by omega, by go_num, by rw [Hn.out]; simpa [castL_snoc] using hO1, hE1⟩
                case measure => (simp [intOf]; omega)
              · have hqi : ((prSet l (nthN L j) k (cnt n) : Int) == (n : Int)) = false := by simp; omega
                have Hq := Lib.hid hq
                clear hq
                clear hE
                have hE := Ext.refl wr
                go_wp2_with fail
                (refine wp_region_lat (wr) (by kernel_rfl) (by kernel_rfl) hE ?_); (repeat (go_big_quiet_step (first | (go_at_call 83; exact Calls.lat_same (bits_any _ h2 _)) | (go_at_call 195; exact Calls.lat (progression_any _ _ _ _ _ _ (hg _ (hEb.trans (lat_ext wr _))) Hgr hx24 (by omega) hcn))))); (refine wpQuiet_nil ?_); (intro W hE'); (replace hE := lat_of hE'); (clear hE')
                replace hO := hO.ext hE
                replace hEb := hEb.trans hE
                replace hEw := hEw.trans hE
                go_wp2_with fail
                go_roundw
                case rel => exact ⟨j + 1, by omega, by go_num, fun q hq => by by_cases e : q = j; (subst e; exact Hq.out); exact Hno.out q (by omega), hO, hEw⟩
                case measure => (simp [intOf]; omega)
            · have hjl : j = L.length := by omega
              subst hjl
              have Hn := Lib.hid (difTo_no (by rw [Hdb.out]; exact diffL_take Hno.out))
              go_wp2_with fail
              go_roundw
              case rel => exact ⟨k + 1, by omega, by go_num, by rw [Hn.out]; exact hO, hEb⟩
              case measure => (simp [intOf]; omega)
        · have hkl : k = ord l := by omega
          subst hkl
          go_wp2_with fail
          go_ret
          exact ⟨_, rfl, by rw [Hs.out]; exact hO.mono hE0, hE0.trans hE⟩
end Go.Zz

/- append to a slice that is empty without room, or owned behind a world. -/
namespace Go.Zz
open Go.RowKit Go.Proofs
set_option maxHeartbeats 400000

/-- v is the empty slice []int{} that reads as [], or it is owned in a block from w0 on -/
def OwnE (TI : TypeId) (wb w0 w : World) (v : Value) (l : List Int) : Prop :=
  (∃ g, wb.heap.size ≤ g ∧ v = .slice (some ⟨g, 0, none⟩) 0 0 ∧ l = [] ∧ Blk w g TI #[]) ∨ Own TI w0 w v l
theorem OwnE.ext {TI : TypeId} {wb w0 w w' : World} {v : Value} {l : List Int} (h : OwnE TI wb w0 w v l) (hE : Ext w w') : OwnE TI wb w0 w' v l := by
  rcases h with ⟨g, h0, h1, h2, h3⟩ | h
  · exact Or.inl ⟨g, h0, h1, h2, h3.ext hE⟩
  · exact Or.inr (h.ext hE)
theorem OwnE.own {TI : TypeId} {wb w0 w : World} {v : Value} {l : List Int} (h : OwnE TI wb w0 w v l) (hE : Ext wb w0) : Own TI wb w v l := by
  rcases h with ⟨g, h0, rfl, rfl, h3⟩ | h
  · exact ⟨⟨by simp, Or.inr ⟨g, 0, #[], rfl, h0, h3, Nat.le_refl _, Nat.zero_le _, by simp, by simp⟩⟩, by simp⟩
  · exact h.mono hE
theorem OwnE.start {TI : TypeId} {wb w1 w : World} (w0 : World) (hB : Blk w1 wb.heap.size TI #[]) (hE : Ext w1 w) : OwnE TI wb w0 w (.slice (some ⟨wb.heap.size, 0, none⟩) 0 0) [] := Or.inl ⟨_, Nat.le_refl _, rfl, rfl, hB.ext hE⟩
section
variable {P : Program} {ops : Array Oper} {rest : List Oper} {o : Oper} {a : Act} {Q : Exit → Act → World → Prop} {T TI : TypeId}
theorem wp_append1e (hT : IntSl P T TI) (hg : o.guard = none) (s x : Operand) (hop : o.op = Op.call { callee := Callee.builtin Builtin.append, args := #[s, x], argTypes := #[T, T] })
    (wb w0 W : World) (v : Value) (l : List Int) (y : Int) (hO : OwnE TI wb w0 W v l) (hE : Ext w0 W) (hn : l.length < 17592186044416) (hs : a.eval s = v) (hx : a.eval x = .slice (some ⟨W.heap.size, 0, none⟩) 1 1)
    (hK : ∀ v' w', Own TI w0 w' v' (l ++ [y]) → Ext w0 w' → wpList P ops Q rest (a.put o.dst v') w') :
    wpList P ops Q (o :: rest) a (W.alloc (.cells #[.int .i64 y] TI)) := by
  rcases hO with ⟨g, -, rfl, rfl, hB⟩ | hO
  · obtain ⟨i, hi, hz, hs1, hby⟩ := hT.info
    have hE1 := hE.alloc (.cells #[.int .i64 y] TI)
    obtain ⟨v', w', hrun, r1, r2⟩ := run_append_arg_grows (P := P) (w := W.alloc (.cells #[.int .i64 y] TI)) T o.type TI i (.int .i64 0) 1 8 hT.und hi hz hs1 hby rfl (by omega) ⟨g, 0, none⟩ 0 0 [] (by simp) (by simp) ⟨W.heap.size, 0, none⟩ 1 1 [.int .i64 y] rfl (cell_one_new _ _ _) (by omega) (by unfold maxLen; omega) (by omega)
    refine wpList_plain hg fun K hK' => ?_
    unfold Oper.wp
    simp [execOp, hop, resolve, invoke, builtin, hs, hx, hrun, Result.andThen]
    have hO' : Own TI (W.alloc (.cells #[.int .i64 y] TI)) w' v' [y] := ⟨by simpa using r1, by simp⟩
    exact hK' _ _ (hK _ _ (by simpa using hO'.mono hE1) (hE1.grown r2 (by simp)))
  · exact wp_append1 hT hg s x hop w0 W v l y hO hE hn hs hx hK
end
end Go.Zz

/- Differences of progressions: the reference. -/
namespace Go.Zz
open Go.RowKit Go.Proofs
set_option maxHeartbeats 1000000
set_option maxRecDepth 20000

theorem sDifferencesOf_any (v : Value) (l : List Int) (a : Int) (w : World) (h : Ints w v l) :
    Calls Try.prog 179 #[.agg #[v], .int .i64 a] w fun e w' => ∃ u, e = .returned u ∧ Own 3 w w' u (difF l a) ∧ Ext w w' := by
  obtain ⟨wb, hwb⟩ : ∃ wb, wb = w.alloc (.cells #[v] 26) := ⟨_, rfl⟩
  have hE0 := (Ext.refl w).alloc (.cells #[v] 26)
  have hb := box_cell w v 26
  rw [← hwb] at hE0 hb
  have hg : ∀ W, Ext wb W → Ints W v l := fun W hW => h.ext (hE0.trans hW)
  have hE := Ext.refl wb
  have Hsz : Hid (w.heap.size + 1 = wb.heap.size) := Lib.hid (by rw [hwb]; simp [go_sem])
  have Hwb := Lib.hid hwb
  clear hwb h
  obtain ⟨wc, hwc⟩ : ∃ wc, wc = wb.alloc (.cells #[] 3) := ⟨_, rfl⟩
  have hO : Own 3 wb wc (.slice (some ⟨wb.heap.size, 0, none⟩) 0 0) [] := by rw [hwc]; exact own_made (by omega) hE [] rfl
  have hBk : Blk wc wb.heap.size 3 #[] := by rw [hwc]; exact Blk.new _ _ _
  replace hE : Ext wb wc := by rw [hwc]; exact hE.alloc _
  have hEc := Ext.refl wc
  have Hsz2 : Hid (wb.heap.size + 1 = wc.heap.size) := Lib.hid (by rw [hwc]; simp [go_sem])
  have Hwc := Lib.hid hwc
  clear hwc
  cases hs : isSetB l a
  · have Hs := Lib.hid (difF_no (isOneB_no hs))
    go_enter Try.func179, Try.ntmps179
    go_wp2_with fail
    rw [← Hwb.out, ← Hwc.out]; rw [Hsz.out]; try rw [Hsz2.out]
    go_wp2_with (first | (go_at_call 73; refine Calls.mono (sIsSet_val _ _ _ _ (hg _ (by repeat (first | assumption | exact Ext.refl _ | (apply And.left; assumption) | apply Ext.drew | apply Ext.alloc))) hs) ?_; rintro e w' ⟨rfl, hE'⟩; replace hO := hO.ext (Ext.trans (by repeat (first | assumption | exact Ext.refl _ | (apply And.left; assumption) | apply Ext.drew | apply Ext.alloc)) hE'); replace hE := hE.trans (Ext.trans (by repeat (first | assumption | exact Ext.refl _ | (apply And.left; assumption) | apply Ext.drew | apply Ext.alloc)) hE'); clear hE'))
    go_ret
    exact ⟨_, rfl, by rw [Hs.out]; exact hO.mono hE0, hE0.trans hE⟩
  · obtain ⟨n, rfl, h1, h2, hgr⟩ := isSetB_nat hs
    by_cases h0 : n = 0
    · subst h0
      have Hs := Lib.hid (difF_no (isOneB_zero l))
      go_enter Try.func179, Try.ntmps179
      go_wp2_with fail
      rw [← Hwb.out, ← Hwc.out]; rw [Hsz.out]; try rw [Hsz2.out]
      go_wp2_with (first | (go_at_call 73; refine Calls.mono (sIsSet_val _ _ _ _ (hg _ (by repeat (first | assumption | exact Ext.refl _ | (apply And.left; assumption) | apply Ext.drew | apply Ext.alloc))) hs) ?_; rintro e w' ⟨rfl, hE'⟩; replace hO := hO.ext (Ext.trans (by repeat (first | assumption | exact Ext.refl _ | (apply And.left; assumption) | apply Ext.drew | apply Ext.alloc)) hE'); replace hE := hE.trans (Ext.trans (by repeat (first | assumption | exact Ext.refl _ | (apply And.left; assumption) | apply Ext.drew | apply Ext.alloc)) hE'); clear hE'))
      go_ret
      exact ⟨_, rfl, by have := Hs.out; rw [show ((0 : Nat) : Int) = 0 from rfl, this]; exact hO.mono hE0, hE0.trans hE⟩
    · have Hs := Lib.hid (difF_yes (isOneB_yes hs (by omega)))
      have h0' : ((n : Int) == 0) = false := by simp; omega
      have Hgr := Lib.hid hgr
      have hob := ord_bd hgr
      have hcn := cnt_le n
      clear hgr h0
      go_enter Try.func179, Try.ntmps179
      go_wp2_with fail
      rw [← Hwb.out, ← Hwc.out]; rw [Hsz.out]; try rw [Hsz2.out]
      go_wp2_with (first | (go_at_call 73; refine Calls.mono (sIsSet_val _ _ _ _ (hg _ (by repeat (first | assumption | exact Ext.refl _ | (apply And.left; assumption) | apply Ext.drew | apply Ext.alloc))) hs) ?_; rintro e w' ⟨rfl, hE'⟩; replace hEc := hEc.trans (Ext.trans (by repeat (first | assumption | exact Ext.refl _ | (apply And.left; assumption) | apply Ext.drew | apply Ext.alloc)) hE'); replace hE := hE.trans (Ext.trans (by repeat (first | assumption | exact Ext.refl _ | (apply And.left; assumption) | apply Ext.drew | apply Ext.alloc)) hE'); clear hE') | (go_at_call 85; refine (l3Bits_any _ h2 _).mono ?_; rintro e w' ⟨rfl, rfl⟩) | (go_at_call 137; refine (l3List_any n h2 _).mono ?_; rintro e w1 ⟨v1, rfl, hL, hE1⟩; obtain ⟨aoL, cL, adrL, rfl, hadrL, hcellL⟩ := hL.ints.nats; have hixL := ints_index (c := cL) elI szI hadrL; clear hadrL))
      replace hO := OwnE.start w1 hBk (hEc.trans hE1)
      replace hE := hE.trans hE1
      have hb1 : ∀ W, Ext w1 W → W.cell? ⟨w.heap.size, 0, none⟩ = some v := fun W hW => hb W (hE.trans hW)
      have hg1 : ∀ W, Ext w1 W → Ints W v l := fun W hW => hg W (hE.trans hW)
      have hEb1 := hE
      clear hs h0' hL hE1 hE hBk hEc
      have hall : ∀ y ∈ elems n, y < 24 := fun y hy => elems_lt hy
      have hlen := elems_len n
      have Hdb : Hid (∀ k, diffB l n k = diffL l n k (elems n)) := Lib.hid (fun _ => rfl)
      generalize elems n = L at hcellL hixL hall hlen Hdb ⊢
      have hE := Ext.refl w1
      go_loopw [5, 8] (fun u x wr => ∃ k : Nat, k ≤ ord l ∧ x = .int .i64 k ∧ OwnE 3 wb w1 wr u (castL (difTo l n k)) ∧ Ext w1 wr) (fun _ x _ => ord l - (intOf x).toNat)
      case atStart => exact ⟨0, by omega, rfl, hO, hE⟩
      case round =>
        clear hE hO
        obtain ⟨k, hk, rfl, hO, hE⟩ := hrel
        by_cases hlt : k < ord l
        · have hln : (castL (difTo l n k)).length ≤ 24 := by rw [castL_len]; have := difTo_len l n k; omega
          have hbx := hb1 _ hE
          go_wp2_with (first | (go_at_call 84; refine (l2Order_any _ _ _ (hg1 _ hE) Hgr).mono ?_; rintro e w' ⟨rfl, hE'⟩; replace hO := hO.ext hE'; replace hE := hE.trans hE'; clear hE'))
          clear hbx
          go_loopw [9, 10] (fun fv i wq => ∃ (j : Nat) (f : Bool), j ≤ L.length ∧ i = .int .i64 j ∧ fv = .bool f ∧ (f = true → diffL l n k L = true) ∧ (f = false → ∀ q, q < j → prSet l (nthN L q) k (cnt n) ≠ n) ∧ OwnE 3 wb w1 wq u5 (castL (difTo l n k)) ∧ Ext w1 wq) (fun fv i _ => L.length - (intOf i).toNat)
          case atStart => exact ⟨0, false, by omega, rfl, rfl, by simp, by omega, hO, hE⟩
          case round =>
            clear hO hE
            obtain ⟨j, f, hj, rfl, rfl, hyes, hno, hO, hE⟩ := hrel
            have Hyes := Lib.hid hyes
            have Hno := Lib.hid hno
            clear hyes hno
            cases f
            · by_cases hlt2 : j < L.length
              · have hx24 := hall _ (nthN_mem hlt2)
                have hpb := prSet_bd Hgr.out hx24 k (cnt n)
                by_cases hq : prSet l (nthN L j) k (cnt n) = n
                · have Hat := Lib.hid (diffL_at hlt2 hq)
                  have hqi : ((prSet l (nthN L j) k (cnt n) : Int) == (n : Int)) = true := by rw [hq]; simp
                  clear hq
                  have hck := fun U => hcellL j _ hlt2 (hE.trans (lat_ext wr U))
                  have hbx := lat_cell (hb1 _ hE)
                  have hgW : ∀ W, Ext wr W → Ints W v l := fun W hW => hg1 W (hE.trans hW)
                  have hE1 := hE
                  clear hE
                  have hE := Ext.refl wr
                  go_wp2_with fail
                  (refine wp_region_lat (wr) (by kernel_rfl) (by kernel_rfl) hE ?_); (repeat (go_big_quiet_step (first | (go_at_call 194; exact Calls.lat (l10Progression_any _ _ _ _ _ _ (hgW _ (lat_ext wr _)) Hgr hx24 (by omega) hcn))))); (refine wpQuiet_nil ?_); (intro W hE'); (replace hE := lat_of hE'); (clear hE')
                  replace hO := hO.ext hE
                  replace hE := hE1.trans hE
                  go_wp2_with fail
                  go_roundw
                  case rel => exact ⟨j + 1, true, by omega, by go_num, rfl, fun _ => Hat.out, by simp, hO, hE⟩
                  case measure => (simp [intOf]; omega)
                · have hqi : ((prSet l (nthN L j) k (cnt n) : Int) == (n : Int)) = false := by simp; omega
                  have Hq := Lib.hid hq
                  clear hq
                  have hck := fun U => hcellL j _ hlt2 (hE.trans (lat_ext wr U))
                  have hbx := lat_cell (hb1 _ hE)
                  have hgW : ∀ W, Ext wr W → Ints W v l := fun W hW => hg1 W (hE.trans hW)
                  have hE1 := hE
                  clear hE
                  have hE := Ext.refl wr
                  go_wp2_with fail
                  (refine wp_region_lat (wr) (by kernel_rfl) (by kernel_rfl) hE ?_); (repeat (go_big_quiet_step (first | (go_at_call 194; exact Calls.lat (l10Progression_any _ _ _ _ _ _ (hgW _ (lat_ext wr _)) Hgr hx24 (by omega) hcn))))); (refine wpQuiet_nil ?_); (intro W hE'); (replace hE := lat_of hE'); (clear hE')
                  replace hO := hO.ext hE
                  replace hE := hE1.trans hE
                  go_wp2_with fail
                  go_roundw
                  case rel => exact ⟨j + 1, false, by omega, by go_num, rfl, by simp, fun _ q hq => by by_cases e : q = j; (subst e; exact Hq.out); exact Hno.out (by simp) q (by omega), hO, hE⟩
                  case measure => (simp [intOf]; omega)
              · have hjl : j = L.length := by omega
                subst hjl
                have Hn := Lib.hid (difTo_no (by rw [Hdb.out]; exact diffL_take (Hno.out rfl)))
                go_wp2_with fail
                go_roundw
                case rel => exact ⟨k + 1, by omega, by go_num, by rw [Hn.out]; exact hO, hE⟩
                case measure => (simp [intOf]; omega)
            · have Hn := Lib.hid (difTo_yes (by rw [Hdb.out]; exact Hyes.out rfl))
              by_cases hlt2 : j < L.length
              all_goals
                go_wp2_with (at_builtin; refine wp_append1e slI rfl _ _ rfl wb w1 _ _ _ _ hO hE (by omega) rfl rfl ?_; intro v1 w1' hO1 hE1)
                go_roundw
                case rel => exact ⟨k + 1, by omega, by go_num, by rw [Hn.out, castL_snoc]; exact Or.inr hO1, hE1⟩
                case measure => (simp [intOf]; omega)
        · have hkl : k = ord l := by omega
          subst hkl
          have hbx := hb1 _ hE
          go_wp2_with (first | (go_at_call 84; refine (l2Order_any _ _ _ (hg1 _ hE) Hgr).mono ?_; rintro e w' ⟨rfl, hE'⟩; replace hO := hO.ext hE'; replace hE := hE.trans hE'; clear hE'))
          go_ret
          exact ⟨_, rfl, by rw [Hs.out]; exact (hO.own hEb1).mono hE0, hE0.trans (hEb1.trans hE)⟩
end Go.Zz
