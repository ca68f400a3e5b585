/- Generated subgroups, hulls, covers. -/
import Derived.Test.YtgjomoedgmofbaaGr6
import Derived.Test.YtgjomoedgmofbaaGr2
import Derived.Deep.RegionHeld3
import Derived.Deep.RegionWith
import Derived.Deep.RegionLaw
import Derived.Test.YtgjomoedgmofbaaGr5
import Derived.Test.YtgjomoedgmofbaaGr4
namespace Go.Zz
open Go.RowKit Go.Proofs
set_option maxHeartbeats 400000

--%call generated 176 ext generated_any _ _ _ _ ({0}) ({1}) ({2})
theorem generated_any (v : Value) (l : List Int) (a : Nat) (w : World) (h : Ints w v l) (Hgr : Hid (isGrp l = true)) (ha : a < 2 ^ 24) :
    Calls Try.prog 176 #[.agg #[v], .int .i64 a] w fun e w' => e = .returned (.int .i64 (genF l a)) ∧ Ext w w' := by
  obtain ⟨wb, hwb⟩ : ∃ wb, wb = w.alloc (.cells #[v] 26) := ⟨_, rfl⟩
  have hE0 := (Ext.refl w).alloc (.cells #[v] 26)
  have hb := box_cell w v 26
  rw [← hwb] at hE0 hb
  have hg : ∀ W, Ext wb W → Ints W v l := fun W hW => h.ext (hE0.trans hW)
  have hE := Ext.refl wb
  have Hsz : Hid (w.heap.size + 1 = wb.heap.size) := Lib.hid (by rw [hwb]; simp [go_sem])
  have Hwb := Lib.hid hwb
  clear hwb h
  have hgb := genF_bd Hgr.out a
  have ho := oppF_bd Hgr.out a
  have Hone := Lib.hid (genF_one l a)
  go_enter Try.func176, Try.ntmps176
  go_wp2_with fail
  rw [← Hwb.out]
  go_loopw [5] (fun hv wr => ∃ h : Nat, Sub 1 h ∧ Sub h (genF l a) ∧ hv = .int .i64 h ∧ Ext wb wr) (fun hv _ => 16777216 - (intOf hv).toNat)
  case atStart => exact ⟨1, Sub.refl 1, Hone.out, rfl, hE⟩
  case round =>
    clear hE
    obtain ⟨h, h1, h2, rfl, hE⟩ := hrel
    have hbx := fun U => hb _ (lat_ext wb U)
    have hh := sub_bd hgb h2
    have hs1 := sumF_bd Hgr.out h a
    have hs2 := sumF_bd Hgr.out h (oppF l a)
    have i1 := ior_nat (a := h) (b := sumF l h a) (by omega) (by omega)
    have ho1 : h ||| sumF l h a < 2 ^ 24 := Nat.or_lt_two_pow hh hs1
    have i2 := ior_nat (a := h ||| sumF l h a) (b := sumF l h (oppF l a)) (by omega) (by omega)
    have hN2 := grow2_sub Hgr.out h2
    have hN1 := grow2_le l a h
    have hend := grow2_end h1 h2
    have hNb := sub_bd hgb hN2
    rw [show h ||| sumF l h a ||| sumF l h (oppF l a) = grow2 l a h from rfl] at i2
    generalize grow2 l a h = N at i2 hN2 hN1 hend hNb
    have H1 := Lib.hid h1
    have H2 := Lib.hid h2
    have HN1 := Lib.hid hN1
    have HN2 := Lib.hid hN2
    have He := Lib.hid hend
    clear h1 h2 hN1 hN2 hend
    by_cases hq : N = h
    · have hq' : ((N : Int) == (h : Int)) = true := by simp [hq]
      have Hq := Lib.hid hq
      clear hq
      go_wp2_with fail
      (refine wp_region_lat (wb) (by kernel_rfl) (by kernel_rfl) hE ?_); (repeat (go_big_quiet_step (first | (go_at_call 113; exact Calls.lat (sum_any _ _ _ _ _ (hg _ (lat_ext wb _)) (Hgr) (hh) (ha))) | (go_at_call 113; exact Calls.lat (sum_any _ _ _ _ _ (hg _ (lat_ext wb _)) (Hgr) (hh) (ho))) | (go_at_call 162; exact Calls.lat (opposite_any _ _ _ _ (hg _ (lat_ext wb _)) (Hgr) (ha)))))); (refine wpQuiet_nil ?_); (intro W hE'); (replace hE := lat_of hE'); (clear hE')
      go_wp2_with fail
      go_ret
      exact ⟨ret_int (by rw [← He.out Hq.out]), hE0.trans hE⟩
    · have hq' : ((N : Int) == (h : Int)) = false := by simp; omega
      have Hlt := Lib.hid (sub_lt hNb HN1.out (fun e => hq e.symm)).1
      clear hq
      go_wp2_with fail
      (refine wp_region_lat (wb) (by kernel_rfl) (by kernel_rfl) hE ?_); (repeat (go_big_quiet_step (first | (go_at_call 113; exact Calls.lat (sum_any _ _ _ _ _ (hg _ (lat_ext wb _)) (Hgr) (hh) (ha))) | (go_at_call 113; exact Calls.lat (sum_any _ _ _ _ _ (hg _ (lat_ext wb _)) (Hgr) (hh) (ho))) | (go_at_call 162; exact Calls.lat (opposite_any _ _ _ _ (hg _ (lat_ext wb _)) (Hgr) (ha)))))); (refine wpQuiet_nil ?_); (intro W hE'); (replace hE := lat_of hE'); (clear hE')
      go_wp2_with fail
      go_roundw
      case rel => exact ⟨N, H1.out.trans HN1.out, HN2.out, rfl, hE⟩
      case measure => (simp [intOf]; have := Hlt.out; omega)
--%call l5Closure 178 ext l5Closure_any _ _ _ _ ({0}) ({1}) ({2})
theorem l5Closure_any (v : Value) (l : List Int) (a : Nat) (w : World) (h : Ints w v l) (Hgr : Hid (isGrp l = true)) (ha : a < 2 ^ 24) :
    Calls Try.prog 178 #[.agg #[v], .int .i64 a] w fun e w' => e = .returned (.int .i64 (genF l a)) ∧ Ext w w' := by
  obtain ⟨wb, hwb⟩ : ∃ wb, wb = w.alloc (.cells #[v] 26) := ⟨_, rfl⟩
  have hE0 := (Ext.refl w).alloc (.cells #[v] 26)
  have hb := box_cell w v 26
  rw [← hwb] at hE0 hb
  have hg : ∀ W, Ext wb W → Ints W v l := fun W hW => h.ext (hE0.trans hW)
  have hE := Ext.refl wb
  have Hsz : Hid (w.heap.size + 1 = wb.heap.size) := Lib.hid (by rw [hwb]; simp [go_sem])
  have Hwb := Lib.hid hwb
  clear hwb h
  have hbx := hb wb hE
  have hgb := genF_bd Hgr.out a
  have Hone := Lib.hid (genF_one l a)
  have h1b : (1 : Nat) < 2 ^ 24 := by omega
  have hs1 := sumF_bd Hgr.out 1 a
  have i1 := ior_nat (a := 1) (b := sumF l 1 a) (by omega) (by omega)
  go_enter Try.func178, Try.ntmps178
  go_wp2_with fail
  rw [← Hwb.out]
  go_wp2_with (first | (go_at_call 118; refine (l4Sum_any _ _ _ _ _ (hg _ hE) (Hgr) (h1b) (ha)).mono ?_; rintro e w' ⟨rfl, hE'⟩; replace hE := hE.trans hE'; clear hE'))
  clear hbx hs1
  go_loopw [5, 6] (fun hv nv wr => ∃ h : Nat, Sub 1 h ∧ Sub h (genF l a) ∧ hv = .int .i64 h ∧ nv = .int .i64 (grow l a h : Nat) ∧ Ext wb wr) (fun hv _ _ => 16777216 - (intOf hv).toNat)
  case atStart => exact ⟨1, Sub.refl 1, Hone.out, rfl, by unfold grow; rw [← i1]; rfl, hE⟩
  case round =>
    clear hE i1
    obtain ⟨h, h1, h2, rfl, rfl, hE⟩ := hrel
    have hbx := hb _ hE
    have hh := sub_bd hgb h2
    have hN2 := grow_sub Hgr.out h2
    have hN1 : Sub h (grow l a h) := Sub.or_left _ _
    have hend := grow_end h1 h2
    have hNb := sub_bd hgb hN2
    generalize grow l a h = N at hN2 hN1 hend hNb ⊢
    have hs1 := sumF_bd Hgr.out N a
    have i1 := ior_nat (a := N) (b := sumF l N a) (by omega) (by omega)
    have Hi : Hid (N ||| sumF l N a = grow l a N) := Lib.hid rfl
    have H1 := Lib.hid h1
    have H2 := Lib.hid h2
    have HN1 := Lib.hid hN1
    have HN2 := Lib.hid hN2
    have He := Lib.hid hend
    clear h1 h2 hN1 hN2 hend
    by_cases hq : N = h
    · have hq' : ((N : Int) != (h : Int)) = false := by simp [hq]
      have Hq := Lib.hid hq
      clear hq
      go_wp2_with fail
      go_ret
      exact ⟨ret_int (by rw [← He.out Hq.out]), hE0.trans hE⟩
    · have hq' : ((N : Int) != (h : Int)) = true := by simp; omega
      have Hlt := Lib.hid (sub_lt hNb HN1.out (fun e => hq e.symm)).1
      clear hq
      go_wp2_with (first | (go_at_call 118; refine (l4Sum_any _ _ _ _ _ (hg _ hE) (Hgr) (hNb) (ha)).mono ?_; rintro e w' ⟨rfl, hE'⟩; replace hE := hE.trans hE'; clear hE'))
      go_roundw
      case rel => exact ⟨N, H1.out.trans HN1.out, HN2.out, rfl, by rw [Hi.out], hE⟩
      case measure => (simp [intOf]; have := Hlt.out; omega)

--%call AffineHull 258 ext AffineHull_any _ _ _ _ ({0})
theorem AffineHull_any (v : Value) (l : List Int) (a : Int) (w : World) (h : Ints w v l) :
    Calls Try.prog 258 #[.agg #[v], .int .i64 a] w fun e w' => e = .returned (.int .i64 (hullF l a)) ∧ Ext w w' := by
  obtain ⟨wb, hwb⟩ : ∃ wb, wb = w.alloc (.cells #[v] 26) := ⟨_, rfl⟩
  have hE0 := (Ext.refl w).alloc (.cells #[v] 26)
  have hb := box_cell w v 26
  rw [← hwb] at hE0 hb
  have hg : ∀ W, Ext wb W → Ints W v l := fun W hW => h.ext (hE0.trans hW)
  have hE := Ext.refl wb
  have Hsz : Hid (w.heap.size + 1 = wb.heap.size) := Lib.hid (by rw [hwb]; simp [go_sem])
  have Hwb := Lib.hid hwb
  clear hwb h
  have hbx := hb wb hE
  cases hs : isSetB l a
  · have Hs := Lib.hid (hullF_no (isOneB_no hs))
    go_enter Try.func258, Try.ntmps258
    go_wp2_with fail
    rw [← Hwb.out]
    go_wp2_with (first | (go_at_call 144; refine (IsSet_any _ _ _ _ (hg _ hE)).mono ?_; rintro e w' ⟨rfl, hE'⟩; replace hE := hE.trans hE'; clear hE'))
    go_ret
    exact ⟨ret_int Hs.out.symm, hE0.trans hE⟩
  · obtain ⟨n, rfl, h1, h2, hgr⟩ := isSetB_nat hs
    by_cases h0 : n = 0
    · subst h0
      have Hs := Lib.hid (hullF_no (isOneB_zero l))
      go_enter Try.func258, Try.ntmps258
      go_wp2_with fail
      rw [← Hwb.out]
      go_wp2_with (first | (go_at_call 144; refine (IsSet_any _ _ _ _ (hg _ hE)).mono ?_; rintro e w' ⟨rfl, hE'⟩; replace hE := hE.trans hE'; clear hE'))
      go_ret
      exact ⟨ret_int (by have := Hs.out; simp_all), hE0.trans hE⟩
    · have Hs := Lib.hid (hullF_yes (isOneB_yes hs (by omega)))
      obtain ⟨l1, l2, l3, l4⟩ := lowN_first h0 h2
      have h0' : ((n : Int) == 0) = false := by simp; omega
      have Hgr := Lib.hid hgr
      have hn := negF_bd hgr (lowN n)
      have hs1 := shiftF_bd hgr n (negF l (lowN n))
      have hs2 := genF_bd hgr (shiftF l n (negF l (lowN n)))
      clear hgr h0
      go_enter Try.func258, Try.ntmps258
      go_wp2_with fail
      rw [← Hwb.out]
      go_wp2_with (first | (go_at_call 144; refine (IsSet_any _ _ _ _ (hg _ hE)).mono ?_; rintro e w' ⟨rfl, hE'⟩; replace hE := hE.trans hE'; clear hE') | (go_at_call 173; refine (members_any n h2 _).mono ?_; rintro e w1 ⟨v1, rfl, hL, hE1⟩; replace hE := hE.trans hE1; obtain ⟨aoL, cL, adrL, rfl, hadrL, hcellL⟩ := hL.ints.nats; have hixL := ints_index (c := cL) elI szI hadrL; clear hadrL; have hck := hcellL 0 _ l2 (Ext.refl _); rw [l1] at hck; have hix0 : ∀ W, (Instr.indexAt 24 (.slice aoL (elems n).length cL) (.int .i64 0)).run Try.prog W = .ok (.pointer (some (adrL 0))) W := fun W => hixL 0 W l2))
      replace hbx := fun U => hb _ (lat_ext wb U)
      (refine wp_region_lat (wb) (by kernel_rfl) (by kernel_rfl) hE ?_); (repeat (go_big_quiet_step (first | (go_at_call 226; exact Calls.lat (negate_any _ _ _ _ (hg _ (lat_ext wb _)) (Hgr) ((by omega)))) | (go_at_call 157; exact Calls.lat (shift_any _ _ _ _ _ (hg _ (lat_ext wb _)) (Hgr) (h2) (hn))) | (go_at_call 157; exact Calls.lat (shift_any _ _ _ _ _ (hg _ (lat_ext wb _)) (Hgr) (hs2) (l4))) | (go_at_call 176; exact Calls.lat (generated_any _ _ _ _ (hg _ (lat_ext wb _)) (Hgr) (hs1)))))); (refine wpQuiet_nil ?_); (intro W hE'); (replace hE := lat_of hE'); (clear hE')
      go_wp2_with fail
      go_ret
      exact ⟨ret_int (by rw [Hs.out]; rfl), hE0.trans hE⟩
--%call l5Low 255 same l5Low_any _ ({0}) ({1}) _
theorem l5Low_any (a : Nat) (h0 : a ≠ 0) (ha : a < 2 ^ 24) (w : World) :
    Calls Try.prog 255 #[.int .i64 a] w fun e w' => e = .returned (.int .i64 (lowN a : Int)) ∧ w = w' := by
  obtain ⟨-, -, l3, l4⟩ := lowN_first h0 ha
  have L3 := Lib.hid l3
  clear l3
  go_enter Try.func255, Try.ntmps255
  go_wp2_with fail
  go_loop [3] (fun i => ∃ k : Nat, k ≤ lowN a ∧ (∀ j, j < k → a.testBit j = false) ∧ i = .int .i64 k) (fun i => 24 - (intOf i).toNat)
  case atStart => exact ⟨0, by omega, by omega, rfl⟩
  case round =>
    obtain ⟨k, hk, hall, rfl⟩ := hrel
    have Hall := Lib.hid hall
    clear hall
    have hsh := ishr_nat (a := a) (n := k) (by omega)
    have hle := shr_le a k
    cases hb : a.testBit k
    · have hm : shr a k % 2 = 0 := by
        rw [Nat.testBit_eq_decide_div_mod_eq, ← Nat.shiftRight_eq_div_pow] at hb
        have := of_decide_eq_false hb
        unfold shr; omega
      have hand : iand ((shr a k : Nat) : Int) 1 = 0 := by rw [iand_one (by omega), hm]; rfl
      have hne : k ≠ lowN a := by intro e; have := L3.out; rw [← e, hb] at this; cases this
      have Hb := Lib.hid hb
      clear hb hm
      go_wp2_with fail
      go_round
      case rel => exact ⟨k + 1, by omega, fun j hj => by by_cases e : j = k; (subst e; exact Hb.out); exact Hall.out j (by omega), by go_num⟩
      case measure => (simp [intOf]; omega)
    · have hm : shr a k % 2 = 1 := by
        rw [Nat.testBit_eq_decide_div_mod_eq, ← Nat.shiftRight_eq_div_pow] at hb
        exact of_decide_eq_true hb
      have hand : iand ((shr a k : Nat) : Int) 1 = 1 := by rw [iand_one (by omega), hm]; rfl
      have He := Lib.hid (lowN_at (by omega) Hall.out hb)
      clear hb hm
      go_wp2_with fail
      go_ret
      exact ⟨ret_int (by rw [He.out]), rfl⟩
end Go.Zz

/- Graphs: connection sets, distances, diameters. -/
namespace Go.Zz
open Go.RowKit Go.Proofs
set_option maxHeartbeats 400000

--%call in 139 same in_any _ _ ({0}) ({1}) _
theorem in_any (a x : Nat) (ha : a < 2 ^ 24) (hx : x ≤ 64) (w : World) :
    Calls Try.prog 139 #[.int .i64 a, .int .i64 x] w fun e w' => e = .returned (.bool (a.testBit x)) ∧ w = w' := by
  have hsh := ishr_nat (a := a) (n := x) hx
  have hbt := bit_test' (a := a) (n := x) (by omega) hx
  go_enter Try.func139, Try.ntmps139
  go_wp2_with fail
  go_ret
  exact ⟨rfl, rfl⟩
theorem in_val (a x : Nat) (ha : a < 2 ^ 24) (hx : x ≤ 64) (w : World) {b : Bool} (hb : a.testBit x = b) :
    Calls Try.prog 139 #[.int .i64 a, .int .i64 x] w fun e w' => e = .returned (.bool b) ∧ w = w' := by
  subst hb; exact in_any a x ha hx w
--%call hasV 138 ext has_val _ _ _ _ ({0}) ({1})
theorem has_any (v : Value) (l : List Int) (x : Int) (w : World) (h : Ints w v l) :
    Calls Try.prog 138 #[.agg #[v], .int .i64 x] w fun e w' => e = .returned (.bool (hasB l x)) ∧ Ext w w' := by
  obtain ⟨wb, hwb⟩ : ∃ wb, wb = w.alloc (.cells #[v] 26) := ⟨_, rfl⟩
  have hE0 := (Ext.refl w).alloc (.cells #[v] 26)
  have hb := box_cell w v 26
  rw [← hwb] at hE0 hb
  have hg : ∀ W, Ext wb W → Ints W v l := fun W hW => h.ext (hE0.trans hW)
  have hE := Ext.refl wb
  have Hsz : Hid (w.heap.size + 1 = wb.heap.size) := Lib.hid (by rw [hwb]; simp [go_sem])
  have Hwb := Lib.hid hwb
  clear hwb h
  have ho := ordF_bd l
  go_enter Try.func138, Try.ntmps138
  go_wp2_with fail
  rw [← Hwb.out]
  go_wp2_with (first | (go_at_call 108; refine (OrderOf_any _ _ _ (hg _ hE)).mono ?_; rintro e w' ⟨rfl, hE'⟩; replace hE := hE.trans hE'; clear hE') | (go_at_call 110; refine (within_any _ _ _ _).mono ?_; rintro e w' ⟨rfl, rfl⟩))
  go_ret
  exact ⟨rfl, hE0.trans hE⟩
theorem has_val (v : Value) (l : List Int) (x : Int) (w : World) (h : Ints w v l) {b : Bool} (hb : hasB l x = b) :
    Calls Try.prog 138 #[.agg #[v], .int .i64 x] w fun e w' => e = .returned (.bool b) ∧ Ext w w' := by
  subst hb; exact has_any v l x w h
--%call sOrderOf 19 ext sOrderOf_any _ _ _ ({0})
theorem sOrderOf_any (v : Value) (l : List Int) (w : World) (h : Ints w v l) :
    Calls Try.prog 19 #[.agg #[v]] w fun e w' => e = .returned (.int .i64 (ordF l)) ∧ Ext w w' := by
  obtain ⟨wb, hwb⟩ : ∃ wb, wb = w.alloc (.cells #[v] 26) := ⟨_, rfl⟩
  have hE0 := (Ext.refl w).alloc (.cells #[v] 26)
  have hb := box_cell w v 26
  rw [← hwb] at hE0 hb
  have hg : ∀ W, Ext wb W → Ints W v l := fun W hW => h.ext (hE0.trans hW)
  have hE := Ext.refl wb
  have Hsz : Hid (w.heap.size + 1 = wb.heap.size) := Lib.hid (by rw [hwb]; simp [go_sem])
  have Hwb := Lib.hid hwb
  clear hwb h
  cases hgr : isGrp l
  · have Ho := Lib.hid (ordF_f hgr)
    go_enter Try.func19, Try.ntmps19
    go_wp2_with fail
    rw [← Hwb.out]
    go_wp2_with (first | (go_at_call 114; refine (sIsGroup_any _ _ _ (hg _ hE)).mono ?_; rintro e w' ⟨rfl, hE'⟩; replace hE := hE.trans hE'; clear hE'))
    go_ret
    exact ⟨ret_int Ho.out.symm, hE0.trans hE⟩
  · have Ho := Lib.hid (ordF_t hgr)
    have Hgr := Lib.hid hgr
    go_enter Try.func19, Try.ntmps19
    go_wp2_with fail
    rw [← Hwb.out]
    go_wp2_with (first | (go_at_call 114; refine (sIsGroup_any _ _ _ (hg _ hE)).mono ?_; rintro e w' ⟨rfl, hE'⟩; replace hE := hE.trans hE'; clear hE') | (go_at_call 115; refine (l2Order_any _ _ _ (hg _ hE) (Hgr)).mono ?_; rintro e w' ⟨rfl, hE'⟩; replace hE := hE.trans hE'; clear hE'))
    go_ret
    exact ⟨ret_int Ho.out.symm, hE0.trans hE⟩
--%call l2IsV 140 ext l2Is_val _ _ _ _ ({0}) ({1})
theorem l2Is_any (v : Value) (l : List Int) (x : Int) (w : World) (h : Ints w v l) :
    Calls Try.prog 140 #[.agg #[v], .int .i64 x] w fun e w' => e = .returned (.bool (hasB l x)) ∧ Ext w w' := by
  obtain ⟨wb, hwb⟩ : ∃ wb, wb = w.alloc (.cells #[v] 26) := ⟨_, rfl⟩
  have hE0 := (Ext.refl w).alloc (.cells #[v] 26)
  have hb := box_cell w v 26
  rw [← hwb] at hE0 hb
  have hg : ∀ W, Ext wb W → Ints W v l := fun W hW => h.ext (hE0.trans hW)
  have hE := Ext.refl wb
  have Hsz : Hid (w.heap.size + 1 = wb.heap.size) := Lib.hid (by rw [hwb]; simp [go_sem])
  have Hwb := Lib.hid hwb
  clear hwb h
  have ho := ordF_bd l
  by_cases h0 : 0 ≤ x
  · by_cases h1 : x < ordF l
    · have Hh : Hid (hasB l x = true) := Lib.hid (inB_t.2 (by omega))
      go_enter Try.func140, Try.ntmps140
      go_wp2_with fail
      rw [← Hwb.out]
      go_wp2_with (first | (go_at_call 19; refine (sOrderOf_any _ _ _ (hg _ hE)).mono ?_; rintro e w' ⟨rfl, hE'⟩; replace hE := hE.trans hE'; clear hE'))
      go_ret
      exact ⟨ret_bool (by rw [Hh.out]), hE0.trans hE⟩
    · have Hh : Hid (hasB l x = false) := Lib.hid (inB_f.2 (by omega))
      have h1' : decide (x < ordF l) = false := by simp; omega
      go_enter Try.func140, Try.ntmps140
      go_wp2_with fail
      rw [← Hwb.out]
      go_wp2_with (first | (go_at_call 19; refine (sOrderOf_any _ _ _ (hg _ hE)).mono ?_; rintro e w' ⟨rfl, hE'⟩; replace hE := hE.trans hE'; clear hE'))
      go_ret
      exact ⟨ret_bool (by rw [Hh.out]), hE0.trans hE⟩
  · have Hh : Hid (hasB l x = false) := Lib.hid (inB_f.2 (by omega))
    have h0' : decide (0 ≤ x) = false := by simp; omega
    go_enter Try.func140, Try.ntmps140
    go_wp2_with fail
    rw [← Hwb.out]
    go_wp2_with (first | (go_at_call 19; refine (sOrderOf_any _ _ _ (hg _ hE)).mono ?_; rintro e w' ⟨rfl, hE'⟩; replace hE := hE.trans hE'; clear hE'))
    go_ret
    exact ⟨ret_bool (by rw [Hh.out]), hE0.trans hE⟩
theorem l2Is_val (v : Value) (l : List Int) (x : Int) (w : World) (h : Ints w v l) {b : Bool} (hb : hasB l x = b) :
    Calls Try.prog 140 #[.agg #[v], .int .i64 x] w fun e w' => e = .returned (.bool b) ∧ Ext w w' := by
  subst hb; exact l2Is_any v l x w h

--%call IsConnV 92 ext IsConnection_val _ _ _ _ ({0}) ({1})
theorem IsConnection_any (v : Value) (l : List Int) (a : Int) (w : World) (h : Ints w v l) :
    Calls Try.prog 92 #[.agg #[v], .int .i64 a] w fun e w' => e = .returned (.bool (connB l a)) ∧ Ext w w' := by
  obtain ⟨wb, hwb⟩ : ∃ wb, wb = w.alloc (.cells #[v] 26) := ⟨_, rfl⟩
  have hE0 := (Ext.refl w).alloc (.cells #[v] 26)
  have hb := box_cell w v 26
  rw [← hwb] at hE0 hb
  have hg : ∀ W, Ext wb W → Ints W v l := fun W hW => h.ext (hE0.trans hW)
  have hE := Ext.refl wb
  have Hsz : Hid (w.heap.size + 1 = wb.heap.size) := Lib.hid (by rw [hwb]; simp [go_sem])
  have Hwb := Lib.hid hwb
  clear hwb h
  have hbx := hb wb hE
  cases hs : isSetB l a
  · have Hs := Lib.hid (connB_set hs)
    go_enter Try.func92, Try.ntmps92
    go_wp2_with fail
    rw [← Hwb.out]
    go_wp2_with (first | (go_at_call 144; refine (IsSet_val _ _ _ _ (hg _ hE) (hs)).mono ?_; rintro e w' ⟨rfl, hE'⟩; replace hE := hE.trans hE'; clear hE'))
    go_ret
    exact ⟨ret_bool Hs.out.symm, hE0.trans hE⟩
  · obtain ⟨n, rfl, h1, h2, hgr⟩ := isSetB_nat hs
    have Hgr := Lib.hid hgr
    cases h0 : n.testBit 0
    · have Hs := Lib.hid (connB_yes hs h0)
      clear hgr
      go_enter Try.func92, Try.ntmps92
      go_wp2_with fail
      rw [← Hwb.out]
      go_wp2_with (first | (go_at_call 144; refine (IsSet_val _ _ _ _ (hg _ hE) (hs)).mono ?_; rintro e w' ⟨rfl, hE'⟩; replace hE := hE.trans hE'; clear hE') | (go_at_call 139; refine (in_val n 0 h2 (by omega) _ h0).mono ?_; rintro e w' ⟨rfl, rfl⟩) | (go_at_call 162; refine (opposite_any _ _ _ _ (hg _ hE) (Hgr) (h2)).mono ?_; rintro e w' ⟨rfl, hE'⟩; replace hE := hE.trans hE'; clear hE'))
      go_ret
      exact ⟨ret_bool (by rw [Hs.out]), hE0.trans hE⟩
    · have Hs := Lib.hid (connB_zero (l := l) h0)
      clear hgr
      go_enter Try.func92, Try.ntmps92
      go_wp2_with fail
      rw [← Hwb.out]
      go_wp2_with (first | (go_at_call 144; refine (IsSet_val _ _ _ _ (hg _ hE) (hs)).mono ?_; rintro e w' ⟨rfl, hE'⟩; replace hE := hE.trans hE'; clear hE') | (go_at_call 139; refine (in_val n 0 h2 (by omega) _ h0).mono ?_; rintro e w' ⟨rfl, rfl⟩))
      go_ret
      exact ⟨ret_bool (by rw [Hs.out]), hE0.trans hE⟩
theorem IsConnection_val (v : Value) (l : List Int) (a : Int) (w : World) (h : Ints w v l) {b : Bool} (hb : connB l a = b) :
    Calls Try.prog 92 #[.agg #[v], .int .i64 a] w fun e w' => e = .returned (.bool b) ∧ Ext w w' := by
  subst hb; exact IsConnection_any v l a w h
theorem bit_zero_t {n : Nat} (h2 : n < 2 ^ 24) (h : n.testBit 0 = true) : iand (n : Int) 1 = 1 := by
  rw [Nat.testBit_zero] at h; rw [iand_one (by omega), of_decide_eq_true h]; rfl
theorem bit_zero_f {n : Nat} (h2 : n < 2 ^ 24) (h : n.testBit 0 = false) : iand (n : Int) 1 = 0 := by
  rw [Nat.testBit_zero] at h; rw [iand_one (by omega)]; have := of_decide_eq_false h; have h3 : n % 2 = 0 := by omega
  rw [h3]; rfl
--%call sIsConnV 165 ext sIsConnection_val _ _ _ _ ({0}) ({1})
theorem sIsConnection_any (v : Value) (l : List Int) (a : Int) (w : World) (h : Ints w v l) :
    Calls Try.prog 165 #[.agg #[v], .int .i64 a] w fun e w' => e = .returned (.bool (connB l a)) ∧ Ext w w' := by
  obtain ⟨wb, hwb⟩ : ∃ wb, wb = w.alloc (.cells #[v] 26) := ⟨_, rfl⟩
  have hE0 := (Ext.refl w).alloc (.cells #[v] 26)
  have hb := box_cell w v 26
  rw [← hwb] at hE0 hb
  have hg : ∀ W, Ext wb W → Ints W v l := fun W hW => h.ext (hE0.trans hW)
  have hE := Ext.refl wb
  have Hsz : Hid (w.heap.size + 1 = wb.heap.size) := Lib.hid (by rw [hwb]; simp [go_sem])
  have Hwb := Lib.hid hwb
  clear hwb h
  have hbx := hb wb hE
  cases hs : isSetB l a
  · have Hs := Lib.hid (connB_set hs)
    go_enter Try.func165, Try.ntmps165
    go_wp2_with fail
    rw [← Hwb.out]
    go_wp2_with (first | (go_at_call 119; refine (sIsSet_val _ _ _ _ (hg _ hE) (hs)).mono ?_; rintro e w' ⟨rfl, hE'⟩; replace hE := hE.trans hE'; clear hE'))
    go_ret
    exact ⟨ret_bool Hs.out.symm, hE0.trans hE⟩
  · obtain ⟨n, rfl, h1, h2, hgr⟩ := isSetB_nat hs
    have Hgr := Lib.hid hgr
    cases h0 : n.testBit 0
    · have Hs := Lib.hid (connB_yes hs h0)
      have hi := bit_zero_f h2 h0
      clear hgr
      go_enter Try.func165, Try.ntmps165
      go_wp2_with fail
      rw [← Hwb.out]
      go_wp2_with (first | (go_at_call 119; refine (sIsSet_val _ _ _ _ (hg _ hE) (hs)).mono ?_; rintro e w' ⟨rfl, hE'⟩; replace hE := hE.trans hE'; clear hE') | (go_at_call 171; refine (l3Negate_any _ _ _ _ (hg _ hE) (Hgr) (h2)).mono ?_; rintro e w' ⟨rfl, hE'⟩; replace hE := hE.trans hE'; clear hE'))
      go_ret
      exact ⟨ret_bool (by rw [Hs.out]), hE0.trans hE⟩
    · have Hs := Lib.hid (connB_zero (l := l) h0)
      have hi := bit_zero_t h2 h0
      clear hgr
      go_enter Try.func165, Try.ntmps165
      go_wp2_with fail
      rw [← Hwb.out]
      go_wp2_with (first | (go_at_call 119; refine (sIsSet_val _ _ _ _ (hg _ hE) (hs)).mono ?_; rintro e w' ⟨rfl, hE'⟩; replace hE := hE.trans hE'; clear hE'))
      go_ret
      exact ⟨ret_bool (by rw [Hs.out]), hE0.trans hE⟩
theorem sIsConnection_val (v : Value) (l : List Int) (a : Int) (w : World) (h : Ints w v l) {b : Bool} (hb : connB l a = b) :
    Calls Try.prog 165 #[.agg #[v], .int .i64 a] w fun e w' => e = .returned (.bool b) ∧ Ext w w' := by
  subst hb; exact sIsConnection_any v l a w h

theorem DistanceInCayley_any (v : Value) (l : List Int) (a x y : Int) (w : World) (h : Ints w v l) :
    Calls Try.prog 76 #[.agg #[v], .int .i64 a, .int .i64 x, .int .i64 y] w fun e w' => e = .returned (.int .i64 (distF l a x y)) ∧ Ext w w' := by
  obtain ⟨wb, hwb⟩ : ∃ wb, wb = w.alloc (.cells #[v] 26) := ⟨_, rfl⟩
  have hE0 := (Ext.refl w).alloc (.cells #[v] 26)
  have hb := box_cell w v 26
  rw [← hwb] at hE0 hb
  have hg : ∀ W, Ext wb W → Ints W v l := fun W hW => h.ext (hE0.trans hW)
  have hE := Ext.refl wb
  have Hsz : Hid (w.heap.size + 1 = wb.heap.size) := Lib.hid (by rw [hwb]; simp [go_sem])
  have Hwb := Lib.hid hwb
  clear hwb h
  have hbx := hb wb hE
  cases hc : connB l a
  · have Hs := Lib.hid (distF_no (l := l) (a := a) (x := x) (y := y) (by rw [hc]; rfl))
    go_enter Try.func76, Try.ntmps76
    go_wp2_with fail
    rw [← Hwb.out]
    go_wp2_with (first | (go_at_call 92; refine (IsConnection_val _ _ _ _ (hg _ hE) (hc)).mono ?_; rintro e w' ⟨rfl, hE'⟩; replace hE := hE.trans hE'; clear hE'))
    go_ret
    exact ⟨ret_int Hs.out.symm, hE0.trans hE⟩
  · cases hx : hasB l x
    · have Hs := Lib.hid (distF_no (l := l) (a := a) (x := x) (y := y) (by rw [hx]; simp))
      go_enter Try.func76, Try.ntmps76
      go_wp2_with fail
      rw [← Hwb.out]
      go_wp2_with (first | (go_at_call 92; refine (IsConnection_val _ _ _ _ (hg _ hE) (hc)).mono ?_; rintro e w' ⟨rfl, hE'⟩; replace hE := hE.trans hE'; clear hE') | (go_at_call 138; refine (has_val _ _ _ _ (hg _ hE) (hx)).mono ?_; rintro e w' ⟨rfl, hE'⟩; replace hE := hE.trans hE'; clear hE'))
      go_ret
      exact ⟨ret_int Hs.out.symm, hE0.trans hE⟩
    · cases hy : hasB l y
      ·
        have Hs := Lib.hid (distF_no (l := l) (a := a) (x := x) (y := y) (by rw [hy]; simp))
        go_enter Try.func76, Try.ntmps76
        go_wp2_with fail
        rw [← Hwb.out]
        go_wp2_with (first | (go_at_call 92; refine (IsConnection_val _ _ _ _ (hg _ hE) (hc)).mono ?_; rintro e w' ⟨rfl, hE'⟩; replace hE := hE.trans hE'; clear hE') | (go_at_call 138; (first | (with_reducible refine Calls.mono (has_val _ _ x _ (hg _ hE) hx) ?_) | (with_reducible refine Calls.mono (has_val _ _ y _ (hg _ hE) hy) ?_)); rintro e w' ⟨rfl, hE'⟩; replace hE := hE.trans hE'; clear hE'))
        go_ret
        exact ⟨ret_int Hs.out.symm, hE0.trans hE⟩
      · have Hv : Hid ((connB l a && hasB l x && hasB l y) = true) := Lib.hid (by rw [hc, hx, hy]; rfl)
        obtain ⟨a, rfl, ha1, ha2, hgr⟩ := connB_nat hc
        obtain ⟨x, rfl, hx2, -⟩ := hasB_nat hx
        obtain ⟨y, rfl, hy2, -⟩ := hasB_nat hy
        have Hs := Lib.hid (distF_yes Hv.out)
        have Hgr := Lib.hid hgr
        have hob := ord_bd hgr
        have hs1 := ishl_one (n := x) (by omega)
        have hp1 : 2 ^ x < 2 ^ ord l := Nat.pow_lt_pow_right (by omega) hx2
        have hgb := fun n => growTo_bd (a := a) hgr hp1 n
        clear hgr hp1
        go_enter Try.func76, Try.ntmps76
        go_wp2_with fail
        rw [← Hwb.out]
        go_wp2_with (first | (go_at_call 92; refine (IsConnection_val _ _ _ _ (hg _ hE) (hc)).mono ?_; rintro e w' ⟨rfl, hE'⟩; replace hE := hE.trans hE'; clear hE') | (go_at_call 138; (first | (with_reducible refine Calls.mono (has_val _ _ (x : Int) _ (hg _ hE) hx) ?_) | (with_reducible refine Calls.mono (has_val _ _ (y : Int) _ (hg _ hE) hy) ?_)); rintro e w' ⟨rfl, hE'⟩; replace hE := hE.trans hE'; clear hE'))
        clear hc hx hy hs1 hbx
        go_loopw [9, 10] (fun rv nv wr => ∃ n : Nat, n ≤ 24 ∧ (∀ j, j < n → growTo l a (2 ^ x) (j + 1) ≠ growTo l a (2 ^ x) j) ∧ (∀ j, j < n → (growTo l a (2 ^ x) j).testBit y = false) ∧ rv = .int .i64 (growTo l a (2 ^ x) n : Nat) ∧ nv = .int .i64 n ∧ Ext wb wr) (fun _ nv _ => 25 - (intOf nv).toNat)
        case atStart => exact ⟨0, by omega, by omega, by omega, rfl, rfl, hE⟩
        case round =>
          clear hE
          obtain ⟨n, hn24, hne, hall, rfl, rfl, hE⟩ := hrel
          have hbx := hb _ hE
          have hn := dist_bound Hgr.out hx2 hne
          have hr := hgb n
          have hr1 := hgb (n + 1)
          have Hne := Lib.hid hne
          have Hall := Lib.hid hall
          clear hne hall
          cases hb' : (growTo l a (2 ^ x) n).testBit y
          · have Hb := Lib.hid hb'
            have hsum := sumF_bd Hgr.out (growTo l a (2 ^ x) n) a
            have hi := ior_nat (a := growTo l a (2 ^ x) n) (b := sumF l (growTo l a (2 ^ x) n) a) (by omega) (by omega)
            rw [← growTo_succ] at hi
            by_cases hq : growTo l a (2 ^ x) (n + 1) = growTo l a (2 ^ x) n
            · have hq' : ((growTo l a (2 ^ x) (n + 1) : Int) == (growTo l a (2 ^ x) n : Int)) = true := by rw [hq]; simp
              have Hz := Lib.hid (distN_stop (y := y) (fun j hj => by by_cases e : j = n; (subst e; exact Hb.out); exact Hall.out j (by omega)) hq)
              clear hq
              go_wp2_with (first | (go_at_call 139; refine (in_val _ y hr (by omega) _ hb').mono ?_; rintro e w' ⟨rfl, rfl⟩) | (go_at_call 113; refine (sum_any _ _ _ _ _ (hg _ hE) (Hgr) (hr) (ha2)).mono ?_; rintro e w' ⟨rfl, hE'⟩; replace hE := hE.trans hE'; clear hE'))
              go_ret
              exact ⟨ret_int (by rw [Hs.out, Hz.out]), hE0.trans hE⟩
            · have hq' : ((growTo l a (2 ^ x) (n + 1) : Int) == (growTo l a (2 ^ x) n : Int)) = false := by simp; omega
              have Hq := Lib.hid hq
              clear hq
              go_wp2_with (first | (go_at_call 139; refine (in_val _ y hr (by omega) _ hb').mono ?_; rintro e w' ⟨rfl, rfl⟩) | (go_at_call 113; refine (sum_any _ _ _ _ _ (hg _ hE) (Hgr) (hr) (ha2)).mono ?_; rintro e w' ⟨rfl, hE'⟩; replace hE := hE.trans hE'; clear hE'))
              go_roundw
              case rel => exact ⟨n + 1, by omega, fun j hj => by by_cases e : j = n; (subst e; exact Hq.out); exact Hne.out j (by omega), fun j hj => by by_cases e : j = n; (subst e; exact Hb.out); exact Hall.out j (by omega), rfl, by go_num, hE⟩
              case measure => (simp [intOf]; omega)
          · have Hz := Lib.hid (distN_at (a := a) (x := x) (by omega) Hall.out hb')
            go_wp2_with (first | (go_at_call 139; refine (in_val _ y hr (by omega) _ hb').mono ?_; rintro e w' ⟨rfl, rfl⟩))
            go_ret
            exact ⟨ret_int (by rw [Hs.out, Hz.out]), hE0.trans hE⟩
theorem sDistanceInCayley_any (v : Value) (l : List Int) (a x y : Int) (w : World) (h : Ints w v l) :
    Calls Try.prog 77 #[.agg #[v], .int .i64 a, .int .i64 x, .int .i64 y] w fun e w' => e = .returned (.int .i64 (distF l a x y)) ∧ Ext w w' := by
  obtain ⟨wb, hwb⟩ : ∃ wb, wb = w.alloc (.cells #[v] 26) := ⟨_, rfl⟩
  have hE0 := (Ext.refl w).alloc (.cells #[v] 26)
  have hb := box_cell w v 26
  rw [← hwb] at hE0 hb
  have hg : ∀ W, Ext wb W → Ints W v l := fun W hW => h.ext (hE0.trans hW)
  have hE := Ext.refl wb
  have Hsz : Hid (w.heap.size + 1 = wb.heap.size) := Lib.hid (by rw [hwb]; simp [go_sem])
  have Hwb := Lib.hid hwb
  clear hwb h
  have hbx := hb wb hE
  cases hc : connB l a
  · have Hs := Lib.hid (distF_no (l := l) (a := a) (x := x) (y := y) (by rw [hc]; rfl))
    go_enter Try.func77, Try.ntmps77
    go_wp2_with fail
    rw [← Hwb.out]
    go_wp2_with (first | (go_at_call 165; refine (sIsConnection_val _ _ _ _ (hg _ hE) (hc)).mono ?_; rintro e w' ⟨rfl, hE'⟩; replace hE := hE.trans hE'; clear hE'))
    go_ret
    exact ⟨ret_int Hs.out.symm, hE0.trans hE⟩
  · cases hx : hasB l x
    · have Hs := Lib.hid (distF_no (l := l) (a := a) (x := x) (y := y) (by rw [hx]; simp))
      go_enter Try.func77, Try.ntmps77
      go_wp2_with fail
      rw [← Hwb.out]
      go_wp2_with (first | (go_at_call 165; refine (sIsConnection_val _ _ _ _ (hg _ hE) (hc)).mono ?_; rintro e w' ⟨rfl, hE'⟩; replace hE := hE.trans hE'; clear hE') | (go_at_call 140; refine (l2Is_val _ _ _ _ (hg _ hE) (hx)).mono ?_; rintro e w' ⟨rfl, hE'⟩; replace hE := hE.trans hE'; clear hE'))
      go_ret
      exact ⟨ret_int Hs.out.symm, hE0.trans hE⟩
    · cases hy : hasB l y
      ·
        have Hs := Lib.hid (distF_no (l := l) (a := a) (x := x) (y := y) (by rw [hy]; simp))
        go_enter Try.func77, Try.ntmps77
        go_wp2_with fail
        rw [← Hwb.out]
        go_wp2_with (first | (go_at_call 165; refine (sIsConnection_val _ _ _ _ (hg _ hE) (hc)).mono ?_; rintro e w' ⟨rfl, hE'⟩; replace hE := hE.trans hE'; clear hE') | (go_at_call 140; (first | (with_reducible refine Calls.mono (l2Is_val _ _ x _ (hg _ hE) hx) ?_) | (with_reducible refine Calls.mono (l2Is_val _ _ y _ (hg _ hE) hy) ?_)); rintro e w' ⟨rfl, hE'⟩; replace hE := hE.trans hE'; clear hE'))
        go_ret
        exact ⟨ret_int Hs.out.symm, hE0.trans hE⟩
      · have Hv : Hid ((connB l a && hasB l x && hasB l y) = true) := Lib.hid (by rw [hc, hx, hy]; rfl)
        obtain ⟨a, rfl, ha1, ha2, hgr⟩ := connB_nat hc
        obtain ⟨x, rfl, hx2, -⟩ := hasB_nat hx
        obtain ⟨y, rfl, hy2, -⟩ := hasB_nat hy
        have Hs := Lib.hid (distF_yes Hv.out)
        have Hgr := Lib.hid hgr
        have hob := ord_bd hgr
        have hs1 := ishl_one (n := x) (by omega)
        have hp1 : 2 ^ x < 2 ^ ord l := Nat.pow_lt_pow_right (by omega) hx2
        have hgb := fun n => growTo_bd (a := a) hgr hp1 n
        clear hgr hp1
        go_enter Try.func77, Try.ntmps77
        go_wp2_with fail
        rw [← Hwb.out]
        go_wp2_with (first | (go_at_call 165; refine (sIsConnection_val _ _ _ _ (hg _ hE) (hc)).mono ?_; rintro e w' ⟨rfl, hE'⟩; replace hE := hE.trans hE'; clear hE') | (go_at_call 140; (first | (with_reducible refine Calls.mono (l2Is_val _ _ (x : Int) _ (hg _ hE) hx) ?_) | (with_reducible refine Calls.mono (l2Is_val _ _ (y : Int) _ (hg _ hE) hy) ?_)); rintro e w' ⟨rfl, hE'⟩; replace hE := hE.trans hE'; clear hE'))
        clear hc hx hy hs1 hbx
        go_loopw [9, 10] (fun rv nv wr => ∃ n : Nat, n ≤ ord l + 1 ∧ (∀ j, j < n → (growTo l a (2 ^ x) j).testBit y = false) ∧ rv = .int .i64 (growTo l a (2 ^ x) n : Nat) ∧ nv = .int .i64 n ∧ Ext wb wr) (fun _ nv _ => ord l + 1 - (intOf nv).toNat)
        case atStart => exact ⟨0, by omega, by omega, rfl, rfl, hE⟩
        case round =>
          clear hE
          obtain ⟨n, hn24, hall, rfl, rfl, hE⟩ := hrel
          have hbx := hb _ hE
          have hr := hgb n
          have hr1 := hgb (n + 1)
          have Hall := Lib.hid hall
          clear hall
          by_cases hlt : n ≤ ord l
          · have hsh := ishr_nat (a := growTo l a (2 ^ x) n) (n := y) (by omega)
            have hbt := bit_test' (a := growTo l a (2 ^ x) n) (n := y) (by omega) (by omega)
            cases hb' : (growTo l a (2 ^ x) n).testBit y
            · rw [hb'] at hbt
              have Hb := Lib.hid hb'
              have hsum := sumF_bd Hgr.out (growTo l a (2 ^ x) n) a
              have hi := ior_nat (a := growTo l a (2 ^ x) n) (b := sumF l (growTo l a (2 ^ x) n) a) (by omega) (by omega)
              rw [← growTo_succ] at hi
              go_wp2_with (first | (go_at_call 115; refine (l2Order_any _ _ _ (hg _ hE) (Hgr)).mono ?_; rintro e w' ⟨rfl, hE'⟩; replace hE := hE.trans hE'; clear hE') | (go_at_call 118; refine (l4Sum_any _ _ _ _ _ (hg _ hE) (Hgr) (hr) (ha2)).mono ?_; rintro e w' ⟨rfl, hE'⟩; replace hE := hE.trans hE'; clear hE'))
              go_roundw
              case rel => exact ⟨n + 1, by omega, fun j hj => by by_cases e : j = n; (subst e; exact Hb.out); exact Hall.out j (by omega), rfl, by go_num, hE⟩
              case measure => (simp [intOf]; omega)
            · rw [hb'] at hbt
              have Hz := Lib.hid (distN_at (a := a) (x := x) (by omega) Hall.out hb')
              go_wp2_with (first | (go_at_call 115; refine (l2Order_any _ _ _ (hg _ hE) (Hgr)).mono ?_; rintro e w' ⟨rfl, hE'⟩; replace hE := hE.trans hE'; clear hE'))
              go_ret
              exact ⟨ret_int (by rw [Hs.out, Hz.out]), hE0.trans hE⟩
          · have Hz := Lib.hid (distN_over Hgr.out (a := a) (y := y) (n := ord l) hx2 (fun j hj => Hall.out j (by omega)) (by omega))
            go_wp2_with (first | (go_at_call 115; refine (l2Order_any _ _ _ (hg _ hE) (Hgr)).mono ?_; rintro e w' ⟨rfl, hE'⟩; replace hE := hE.trans hE'; clear hE'))
            go_ret
            exact ⟨ret_int (by rw [Hs.out, Hz.out]), hE0.trans hE⟩
end Go.Zz

/- Results that lie in memory: the block of a result, and what is stored there. -/
namespace Go.Zz
open Go.RowKit Go.Proofs
set_option maxHeartbeats 400000

/-- what a cell holds, closed to simp -/
def At (W : World) (a : Addr) : Value := (W.cell? a).getD (.int .i64 0)
/-- the first n cells of a block are there and may be written -/
def Res (W : World) (r n : Nat) : Prop := ∀ i, i < n → W.cell? ⟨r, i, none⟩ = some (At W ⟨r, i, none⟩) ∧ W.frozen? ⟨r, i, none⟩ = false
theorem At_of {W : World} {a : Addr} {v : Value} (h : W.cell? a = some v) : At W a = v := by unfold At; rw [h]; rfl
theorem Res.ext {W W' : World} {r n : Nat} (h : Res W r n) (hE : Ext W W') : Res W' r n := fun i hi => by
  obtain ⟨h1, h2⟩ := h i hi
  have h3 := hE.cell h1
  exact ⟨by rw [At_of h3]; exact h3, by rw [Below.frozen hE (World.block_lt_of_cell? W _ h1), h2]⟩
theorem Res.drew {W : World} {r n : Nat} (h : Res W r n) : Res W.drew r n := h.ext ((Ext.refl W).drew)
theorem Blk.res {W : World} {r : Nat} {T : TypeId} {cs : Array Value} (h : Blk W r T cs) {n : Nat} (hn : n ≤ cs.size) : Res W r n := fun i hi => by
  have h1 : W.cell? ⟨r, i, none⟩ = some (cs[i]'(by omega)) := h.cell (by simp)
  exact ⟨by rw [At_of h1]; exact h1, h.free i⟩
theorem Res.setCell {W : World} {r n : Nat} (h : Res W r n) (p : Addr) (x : Value) : Res (W.setCell p x) r n := fun i hi => by
  obtain ⟨h1, h2⟩ := h i hi
  obtain ⟨v', hv⟩ := cell?_setCell_some (w := W) (p := p) (x := x) h1
  exact ⟨by rw [At_of hv]; exact hv, by rw [World.frozen?_setCell, h2]⟩
theorem Blk.new' {w : World} {T : TypeId} {cs : Array Value} {b : Nat} (h : w.heap.size = b) : Blk (w.alloc (.cells cs T)) b T cs := by subst h; exact Blk.new _ _ _
theorem Blk.free_of {W : World} {r : Nat} {T : TypeId} {cs : Array Value} (h : Blk W r T cs) : ∀ i, W.frozen? ⟨r, i, none⟩ = false := h.free
theorem Calls.sh {P : Program} {f : FuncId} {args : Array Value} {TI : TypeId} {w : World} {L : List Int} (h : Calls P f args w fun e w' => ∃ v, e = .returned v ∧ Own TI w w' v L ∧ Ext w w') :
    Calls P f args w fun e w' => ∃ ao c, e = .returned (.slice ao L.length c) ∧ Own TI w w' (.slice ao L.length c) L ∧ Ext w w' :=
  h.mono fun e w' ⟨v, he, hO, hE⟩ => by
    obtain ⟨ao, c, rfl, -⟩ := hO.shape
    exact ⟨ao, c, he, hO, hE⟩
/-- append([]int{}, xs...) as a step of a region that draws its order -/
theorem step_copy {P : Program} {ops : Array Oper} {o : Oper} {a : Act} {w : World} {K : Act → World → Prop} {Q : Exit → Act → World → Prop} {E : Prop} {T TI : TypeId} (hT : IntSl P T TI)
    (hg : o.guard = none) (s x : Operand) (hop : o.op = Op.call { callee := Callee.builtin Builtin.append, args := #[s, x], argTypes := #[T, T] })
    (g : Nat) (u : Value) (m : List Int) (hs : a.eval s = .slice (some ⟨g, 0, none⟩) 0 0) (hx : a.eval x = u) (hB : Blk w g TI #[]) (hI : Ints w u m) (w0 : World) (h0 : w0.heap.size ≤ g) (hE : Ext w0 w)
    (hK : ∀ ao c w', Own TI w0 w' (.slice ao m.length c) m → Ext w w' → K (a.put o.dst (.slice ao m.length c)) w') :
    if Region.wanted o (yielded ops a.tmps) = true then Oper.wp P o a w K Q else E := by
  have hw : Region.wanted o (yielded ops a.tmps) = true := by simp [Region.wanted, hg]
  rw [if_pos hw]
  obtain ⟨i, hi, hz, hs1, hby⟩ := hT.info
  have hown : w.ownsRow w0.heap.size TI 1 (.slice (some ⟨g, 0, none⟩) 0 0) 0 [] := by
    have hB' : w.heap[g]? = some (.cells #[] TI (0, 0)) := hB
    exact ⟨by simp, Or.inr ⟨g, 0, #[], rfl, h0, hB', Nat.le_refl _, Nat.zero_le _, by simp, by simp⟩⟩
  obtain ⟨ao, c, rfl, hmc, hml, hc⟩ := hI
  have key : m = [] → Oper.wp P o a w K Q := by
    intro hm
    subst hm
    have hrun2 : (Builtin.append_ #[T, T] o.type #[.slice (some ⟨g, 0, none⟩) 0 0, .slice ao 0 c]).run P w = .ok (.slice (some ⟨g, 0, none⟩) 0 0) w := by
      have hrun := run_append_owned_none (P := P) w w0.heap.size T o.type TI i 1 hT.und hi (.slice (some ⟨g, 0, none⟩) 0 0) 0 [] hown
      rw [← hrun]; cases ao <;> simp [Builtin.append_, run_underlying hT.und, sizeOf, typeInfo, hi, Builtin.lenOf, Builtin.firstCells, go_sem]
    unfold Oper.wp
    simp [execOp, hop, resolve, invoke, builtin, hs, hx, hrun2, Result.andThen]
    exact hK (some ⟨g, 0, none⟩) 0 _ ⟨by simpa using hown, by simp⟩ (Ext.refl w)
  by_cases hm : m = []
  · exact key hm
  · have hpos : 0 < m.length := Nat.pos_of_ne_zero (fun e => hm (List.eq_nil_of_length_eq_zero e))
    cases ao with
    | none => obtain ⟨_, h, _⟩ := hc 0 hpos; cases h
    | some ad =>
      obtain ⟨v', w', hrun, r1, r2⟩ := run_append_arg_grows (P := P) (w := w) T o.type TI i (.int .i64 0) 1 8 hT.und hi hz hs1 hby rfl (by omega) ⟨g, 0, none⟩ 0 0 [] (by simp) (by simp) ad m.length c (m.map (Value.int .i64)) (by simp) (by
        intro j u hu
        have hj : j < m.length := by have := (List.getElem?_eq_some_iff.1 hu).1; simpa using this
        obtain ⟨a', ha', hc'⟩ := hc j hj
        cases ha'
        rw [hc', ← hu, nth_get _ _ hj]; simp [hj]) (by omega) (by unfold maxLen; omega) (by omega)
      unfold Oper.wp
      simp [execOp, hop, resolve, invoke, builtin, hs, hx, hrun, Result.andThen]
      have hO' : Own TI w w' v' m := ⟨by simpa using r1, hml⟩
      obtain ⟨ao', c', rfl, -⟩ := hO'.shape
      exact hK ao' c' w' (hO'.mono hE) ((Ext.refl w).grown r2 (by simp))
end Go.Zz

/- append to a slice that is empty without room, or owned behind a world. -/
namespace Go.Zz
open Go.RowKit Go.Proofs
set_option maxHeartbeats 400000

/-- v is the empty slice []int{} that reads as [], or it is owned in a block from w0 on -/
def OwnE (TI : TypeId) (wb w0 w : World) (v : Value) (l : List Int) : Prop :=
  (∃ g, wb.heap.size ≤ g ∧ v = .slice (some ⟨g, 0, none⟩) 0 0 ∧ l = [] ∧ Blk w g TI #[]) ∨ Own TI w0 w v l
theorem OwnE.ext {TI : TypeId} {wb w0 w w' : World} {v : Value} {l : List Int} (h : OwnE TI wb w0 w v l) (hE : Ext w w') : OwnE TI wb w0 w' v l := by
  rcases h with ⟨g, h0, h1, h2, h3⟩ | h
  · exact Or.inl ⟨g, h0, h1, h2, h3.ext hE⟩
  · exact Or.inr (h.ext hE)
theorem OwnE.own {TI : TypeId} {wb w0 w : World} {v : Value} {l : List Int} (h : OwnE TI wb w0 w v l) (hE : Ext wb w0) : Own TI wb w v l := by
  rcases h with ⟨g, h0, rfl, rfl, h3⟩ | h
  · exact ⟨⟨by simp, Or.inr ⟨g, 0, #[], rfl, h0, h3, Nat.le_refl _, Nat.zero_le _, by simp, by simp⟩⟩, by simp⟩
  · exact h.mono hE
theorem OwnE.start {TI : TypeId} {wb w1 w : World} (w0 : World) (hB : Blk w1 wb.heap.size TI #[]) (hE : Ext w1 w) : OwnE TI wb w0 w (.slice (some ⟨wb.heap.size, 0, none⟩) 0 0) [] := Or.inl ⟨_, Nat.le_refl _, rfl, rfl, hB.ext hE⟩
section
variable {P : Program} {ops : Array Oper} {rest : List Oper} {o : Oper} {a : Act} {Q : Exit → Act → World → Prop} {T TI : TypeId}
theorem wp_append1e (hT : IntSl P T TI) (hg : o.guard = none) (s x : Operand) (hop : o.op = Op.call { callee := Callee.builtin Builtin.append, args := #[s, x], argTypes := #[T, T] })
    (wb w0 W : World) (v : Value) (l : List Int) (y : Int) (hO : OwnE TI wb w0 W v l) (hE : Ext w0 W) (hn : l.length < 17592186044416) (hs : a.eval s = v) (hx : a.eval x = .slice (some ⟨W.heap.size, 0, none⟩) 1 1)
    (hK : ∀ v' w', Own TI w0 w' v' (l ++ [y]) → Ext w0 w' → wpList P ops Q rest (a.put o.dst v') w') :
    wpList P ops Q (o :: rest) a (W.alloc (.cells #[.int .i64 y] TI)) := by
  rcases hO with ⟨g, -, rfl, rfl, hB⟩ | hO
  · obtain ⟨i, hi, hz, hs1, hby⟩ := hT.info
    have hE1 := hE.alloc (.cells #[.int .i64 y] TI)
    obtain ⟨v', w', hrun, r1, r2⟩ := run_append_arg_grows (P := P) (w := W.alloc (.cells #[.int .i64 y] TI)) T o.type TI i (.int .i64 0) 1 8 hT.und hi hz hs1 hby rfl (by omega) ⟨g, 0, none⟩ 0 0 [] (by simp) (by simp) ⟨W.heap.size, 0, none⟩ 1 1 [.int .i64 y] rfl (cell_one_new _ _ _) (by omega) (by unfold maxLen; omega) (by omega)
    refine wpList_plain hg fun K hK' => ?_
    unfold Oper.wp
    simp [execOp, hop, resolve, invoke, builtin, hs, hx, hrun, Result.andThen]
    have hO' : Own TI (W.alloc (.cells #[.int .i64 y] TI)) w' v' [y] := ⟨by simpa using r1, by simp⟩
    exact hK' _ _ (hK _ _ (by simpa using hO'.mono hE1) (hE1.grown r2 (by simp)))
  · exact wp_append1 hT hg s x hop w0 W v l y hO hE hn hs hx hK
end
end Go.Zz

/- Sequences of elements: IsSequence, parts, totals, the shortest part with the sum 0. -/
namespace Go.Zz
open Go.RowKit Go.Proofs
set_option maxHeartbeats 1000000
set_option maxRecDepth 20000

theorem Calls.ext_of_same {P : Program} {f : FuncId} {args : Array Value} {w : World} {v : Value} (h : Calls P f args w fun e w' => e = .returned v ∧ w = w') :
    Calls P f args w fun e w' => e = .returned v ∧ Ext w w' := h.mono fun _ _ ⟨he, hw⟩ => ⟨he, hw ▸ Ext.refl _⟩
theorem cmpLess_any (a b : Int) (w : World) :
    Calls Try.prog 281 #[.int .i64 a, .int .i64 b] w fun e w' => e = .returned (.bool (decide (a < b))) ∧ w = w' := by
  have hn : ∀ (x : Int) (W : World), Calls Try.prog 292 #[.int .i64 x] W fun e w' => e = .returned (.bool false) ∧ W = w' := fun x W => by
    go_enter Try.func292, Try.ntmps292
    go_wp2_with fail
    go_ret
    exact ⟨by simp, rfl⟩
  have hd : ∃ d, d = decide (a < b) := ⟨_, rfl⟩
  go_enter Try.func281, Try.ntmps281
  go_wp2_with (first | (go_at_call 292; refine (hn _ _).mono ?_; rintro e w' ⟨rfl, rfl⟩))
  go_ret
  exact ⟨rfl, rfl⟩
theorem cmpLess_val (a b : Int) (w : World) {c : Bool} (hc : decide (a < b) = c) :
    Calls Try.prog 281 #[.int .i64 a, .int .i64 b] w fun e w' => e = .returned (.bool c) ∧ w = w' := by subst hc; exact cmpLess_any a b w
end Go.Zz

/- The table of sums: how often each element is a sum. Plain laws. -/
namespace Go.Zz
open Go.RowKit Go.Proofs
set_option maxHeartbeats 400000

/-- one more at a place -/
def bump (t : List Int) (z : Nat) : List Int := t.set z (nth t z + 1)
theorem bump_len (t : List Int) (z : Nat) : (bump t z).length = t.length := by simp [bump]
def tabIn (l : List Int) (x : Nat) (t : List Int) (L : List Nat) : List Int := L.foldl (fun t y => bump t (addF l x y)) t
def tabOut (l : List Int) (b : Nat) (t : List Int) (L : List Nat) : List Int := L.foldl (fun t x => tabIn l x t (elems b)) t
theorem tabIn_snoc (l : List Int) (x : Nat) (t : List Int) (L : List Nat) (y : Nat) : tabIn l x t (L ++ [y]) = bump (tabIn l x t L) (addF l x y) := by
  unfold tabIn; rw [List.foldl_append]; rfl
theorem tabOut_snoc (l : List Int) (b : Nat) (t : List Int) (L : List Nat) (x : Nat) : tabOut l b t (L ++ [x]) = tabIn l x (tabOut l b t L) (elems b) := by
  unfold tabOut; rw [List.foldl_append]; rfl
theorem nth_bump (t : List Int) (z i : Nat) (hz : z < t.length) : nth (bump t z) i = if i = z then nth t z + 1 else nth t i := by
  unfold bump nth
  simp only [List.getD_eq_getElem?_getD, List.getElem?_set]
  by_cases h : i = z
  · subst h; simp [hz]
  · have h' : ¬ z = i := fun e => h e.symm
    simp [h, h']
/-- every count lies between 0 and B -/
def Upto (t : List Int) (B : Int) : Prop := ∀ i, 0 ≤ nth t i ∧ nth t i ≤ B
theorem Upto.bump {t : List Int} {B : Int} (h : Upto t B) {z : Nat} (hz : z < t.length) : Upto (bump t z) (B + 1) := fun i => by
  rw [nth_bump t z i hz]
  have h1 := h z
  have h2 := h i
  split <;> omega
theorem Upto.zeros (n : Nat) : Upto (List.replicate n 0) 0 := fun i => by
  unfold nth
  simp only [List.getD_eq_getElem?_getD, List.getElem?_replicate]
  split <;> simp
def tabF (l : List Int) (a b : Int) : List Int := if isSetB l a && isSetB l b then tabOut l b.toNat (List.replicate (ord l) 0) (elems a.toNat) else []
theorem tabF_no {l : List Int} {a b : Int} (h : (isSetB l a && isSetB l b) = false) : tabF l a b = [] := by unfold tabF; rw [h]; rfl
theorem tabF_yes {l : List Int} {a b : Nat} (h : (isSetB l a && isSetB l b) = true) : tabF l a b = tabOut l b (List.replicate (ord l) 0) (elems a) := by unfold tabF; rw [h]; rfl
end Go.Zz

/- The table of sums. -/
namespace Go.Zz
open Go.RowKit Go.Proofs
set_option maxHeartbeats 400000

theorem Own.cellAt {TI : TypeId} {w0 w : World} {g n c : Nat} {l : List Int} (h : Own TI w0 w (.slice (some ⟨g, 0, none⟩) n c) l) (hn : l.length = n) {i : Nat} (hi : i < n) :
    w.cell? ⟨g, i, none⟩ = some (.int .i64 (nth l i)) ∧ w.frozen? ⟨g, i, none⟩ = false := by
  obtain ⟨ao', c', hv, -, -, hs⟩ := h.shape
  obtain ⟨g', hg1, hc1, hf1⟩ := hs i (by omega)
  simp only [Value.slice.injEq] at hv
  obtain ⟨hv1, -, -⟩ := hv
  rw [← hv1] at hg1
  simp only [Option.some.injEq, Addr.mk.injEq, and_true] at hg1
  obtain rfl := hg1
  exact ⟨hc1, hf1⟩
theorem Own.row {TI : TypeId} {w0 w : World} {ao : Option Addr} {n c : Nat} {l : List Int} (h : Own TI w0 w (.slice ao n c) l) (hn : l.length = n) (hp : 0 < n) :
    ∃ g, ao = some ⟨g, 0, none⟩ ∧ w0.heap.size ≤ g ∧ g < w.heap.size := by
  obtain ⟨ao', c', hv, -, hb, hs⟩ := h.shape
  obtain ⟨g', hg1, hc1, hf1⟩ := hs 0 (by omega)
  simp only [Value.slice.injEq] at hv
  obtain ⟨hv1, -, -⟩ := hv
  subst hv1
  obtain ⟨g, e, h1, h2⟩ := hb _ hg1
  exact ⟨g, by rw [hg1, e], h1, h2⟩
theorem Own.nshape {TI : TypeId} {w0 w : World} {v : Value} {L : List Nat} (h : Own TI w0 w v (castL L)) : ∃ (ao : Option Addr) (c : Nat), v = .slice ao L.length c := by
  obtain ⟨ao, c, e, -, -, -⟩ := h.shape
  exact ⟨ao, c, by rw [e, castL_len]⟩
theorem row_index (g n c : Nat) : ∀ (i : Nat) W, i < n → (Instr.indexAt 24 (.slice (some ⟨g, 0, none⟩) n c) (.int .i64 (i : Int))).run Try.prog W = .ok (.pointer (some ⟨g, i, none⟩)) W := by
  intro i W hi
  rw [run_indexAt_slice (h := elI), if_pos (by omega), szI]
  simp [Result.andThen, Addr.add_lit]
theorem castL_nth {L : List Nat} {i : Nat} : nth (castL L) i = (nthN L i : Int) := nth_castL L i
theorem tabIn_len (l : List Int) (x : Nat) : ∀ (L : List Nat) (t : List Int), (tabIn l x t L).length = t.length
  | [], t => rfl
  | y :: L, t => by
    show (tabIn l x (bump t (addF l x y)) L).length = t.length
    rw [tabIn_len l x L, bump_len]
theorem tabOut_len (l : List Int) (b : Nat) : ∀ (L : List Nat) (t : List Int), (tabOut l b t L).length = t.length
  | [], t => rfl
  | x :: L, t => by
    show (tabOut l b (tabIn l x t (elems b)) L).length = t.length
    rw [tabOut_len l b L, tabIn_len]
theorem tabIn_upto {l : List Int} (hg : isGrp l = true) (x : Nat) : ∀ (L : List Nat) (t : List Int) (B : Int), t.length = ord l → Upto t B → Upto (tabIn l x t L) (B + L.length)
  | [], t, B, _, h => by simpa [tabIn] using h
  | y :: L, t, B, hl, h => by
    have hz : addF l x y < t.length := by rw [hl]; exact addF_lt l (isGrp_ords hg) x y
    have := tabIn_upto hg x L (bump t (addF l x y)) (B + 1) (by rw [bump_len]; exact hl) (h.bump hz)
    show Upto (tabIn l x (bump t (addF l x y)) L) _
    rw [List.length_cons]
    intro i; have := this i; push_cast at this ⊢; omega
theorem tabOut_upto {l : List Int} (hg : isGrp l = true) (b : Nat) : ∀ (L : List Nat) (t : List Int) (B : Int), t.length = ord l → Upto t B → Upto (tabOut l b t L) (B + 24 * L.length)
  | [], t, B, _, h => by simpa [tabOut] using h
  | x :: L, t, B, hl, h => by
    have h1 := tabIn_upto hg x (elems b) t B hl h
    have h2 := tabOut_upto hg b L (tabIn l x t (elems b)) (B + (elems b).length) (by rw [tabIn_len]; exact hl) h1
    have h3 := elems_len b
    show Upto (tabOut l b (tabIn l x t (elems b)) L) _
    rw [List.length_cons]
    intro i; have := h2 i; push_cast at this ⊢; omega
/-- the count that is to be raised fits -/
theorem tab_fits {l : List Int} (hg : isGrp l = true) {b x : Nat} {L M : List Nat} (hL : L.length ≤ 24) (hM : M.length ≤ 24) (i : Nat) :
    0 ≤ nth (tabIn l x (tabOut l b (List.replicate (ord l) 0) L) M) i ∧ nth (tabIn l x (tabOut l b (List.replicate (ord l) 0) L) M) i ≤ 1000 := by
  have h1 := tabOut_upto hg b L _ 0 (by simp) (Upto.zeros (ord l))
  have h2 := tabIn_upto hg x M _ _ (by rw [tabOut_len]; simp) h1
  have := h2 i
  omega

theorem SumTable_any (v : Value) (l : List Int) (a b : Int) (w : World) (h : Ints w v l) :
    Calls Try.prog 146 #[.agg #[v], .int .i64 a, .int .i64 b] w fun e w' => ∃ u, e = .returned u ∧ Own 3 w w' u (tabF l a b) ∧ Ext w w' := by
  obtain ⟨wb, hwb⟩ : ∃ wb, wb = w.alloc (.cells #[v] 26) := ⟨_, rfl⟩
  have hE0 := (Ext.refl w).alloc (.cells #[v] 26)
  have hb := box_cell w v 26
  rw [← hwb] at hE0 hb
  have hg : ∀ W, Ext wb W → Ints W v l := fun W hW => h.ext (hE0.trans hW)
  have hE := Ext.refl wb
  have Hsz : Hid (w.heap.size + 1 = wb.heap.size) := Lib.hid (by rw [hwb]; simp [go_sem])
  have Hwb := Lib.hid hwb
  clear hwb h
  have hbx := hb wb hE
  have har := areF_two l a b
  cases hs : (isSetB l a && isSetB l b)
  · have Hs := Lib.hid (tabF_no hs)
    rw [hs] at har
    clear hs
    go_enter Try.func146, Try.ntmps146
    go_wp2_with fail
    rw [← Hwb.out]; rw [Hsz.out]
    go_wp2_with (first | (go_at_call 158; refine Calls.mono (areSets_val _ _ _ _ _ (hg _ (by repeat (first | assumption | exact Ext.refl _ | (apply And.left; assumption) | apply Ext.drew | apply Ext.alloc))) (ints_two _ _ _ _) har) ?_; rintro e w' ⟨rfl, hE'⟩; replace hE := hE.trans (Ext.trans (by repeat (first | assumption | exact Ext.refl _ | (apply And.left; assumption) | apply Ext.drew | apply Ext.alloc)) hE'); clear hE'))
    go_ret
    exact ⟨_, rfl, by rw [Hs.out]; exact own_made (by omega) (hE0.trans hE) [] rfl, (hE0.trans hE).alloc _⟩
  · obtain ⟨h1, h2⟩ := Bool.and_eq_true_iff.1 hs
    obtain ⟨a, rfl, -, ha, hgr⟩ := isSetB_nat h1
    obtain ⟨b, rfl, -, hb', -⟩ := isSetB_nat h2
    have Hs := Lib.hid (tabF_yes hs)
    rw [hs] at har
    have Hgr := Lib.hid hgr
    have hob := ord_bd hgr
    clear hs hgr h1 h2
    go_enter Try.func146, Try.ntmps146
    go_wp2_with fail
    rw [← Hwb.out]; rw [Hsz.out]
    go_wp2_with (first | (go_at_call 158; refine Calls.mono (areSets_val _ _ _ _ _ (hg _ (by repeat (first | assumption | exact Ext.refl _ | (apply And.left; assumption) | apply Ext.drew | apply Ext.alloc))) (ints_two _ _ _ _) har) ?_; rintro e w' ⟨rfl, hE'⟩; replace hE := hE.trans (Ext.trans (by repeat (first | assumption | exact Ext.refl _ | (apply And.left; assumption) | apply Ext.drew | apply Ext.alloc)) hE'); clear hE') | (go_at_call 108; refine (OrderOf_grp _ _ _ (hg _ hE) (Hgr)).mono ?_; rintro e w' ⟨rfl, hE'⟩; replace hE := hE.trans hE'; clear hE') | (at_make; refine wp_make_ints slI rfl _ _ rfl wb _ (ord l) rfl rfl (by omega) hE ?_; intro w2 hO hE2) | (go_at_call 173; refine (members_any a ha _).mono ?_; rintro e w1 ⟨v1, rfl, hL, hE1⟩; obtain ⟨aoL, cL, rfl⟩ := hL.nshape))
    obtain ⟨g, hgd⟩ : ∃ g, g = w'.heap.size := ⟨_, rfl⟩
    rw [← hgd] at hO ⊢
    clear hgd
    obtain ⟨_, _, hg1, hg2⟩ := hO.row (by simp) (by omega)
    rename_i hge
    simp only [Option.some.injEq, Addr.mk.injEq, and_true] at hge
    subst hge
    replace hO := hO.ext hE1
    replace hE := hE2.trans hE1
    have hixO := row_index g (ord l) (ord l)
    have hall : ∀ y ∈ elems a, y < 24 := fun y hy => elems_lt hy
    have hlen := elems_len a
    clear hE1 hE2
    generalize elems a = L at hL hall hlen Hs ⊢
    go_loopw [25] (fun i wr => ∃ k : Nat, k ≤ L.length ∧ i = .int .i64 k ∧ Own 3 wb wr (.slice (some ⟨g, 0, none⟩) (ord l) (ord l)) (tabOut l b (List.replicate (ord l) 0) (L.take k)) ∧ Own 3 w2 wr (.slice aoL L.length cL) (castL L) ∧ Ext wb wr) (fun i _ => L.length - (intOf i).toNat)
    case atStart => exact ⟨0, by omega, rfl, hO, hL, hE⟩
    case round =>
      clear hE hO hL
      obtain ⟨k, hk, rfl, hO, hL, hE⟩ := hrel
      have hbx := hb _ hE
      by_cases hlt : k < L.length
      · obtain ⟨gL, rfl, -, -⟩ := hL.row (castL_len L) (by omega)
        have hck := (hL.cellAt (castL_len L) hlt).1
        rw [castL_nth] at hck
        have hixL := row_index gL L.length cL
        have hgw : g < wr.heap.size := (hO.blk g rfl).2
        have hx24 := hall _ (nthN_mem hlt)
        have Hsn := Lib.hid (tabOut_snoc l b (List.replicate (ord l) 0) (L.take k) (nthN L k))
        have Htk := Lib.hid (take_nthN L k hlt)
        have hLk : (L.take k).length ≤ 24 := by rw [List.length_take]; omega
        go_wp2_with (first | (go_at_call 173; refine (members_any b hb' _).mono ?_; rintro e w3 ⟨v3, rfl, hM, hE3⟩; obtain ⟨aoM, cM, rfl⟩ := hM.nshape))
        replace hO := hO.ext hE3
        replace hL := hL.ext hE3
        replace hE := hE.trans hE3
        have hallM : ∀ y ∈ elems b, y < 24 := fun y hy => elems_lt hy
        have hlenM := elems_len b
        obtain ⟨M, hMd⟩ : ∃ M, M = elems b := ⟨_, rfl⟩
        rw [← hMd] at hM hallM hlenM ⊢
        have HMd := Lib.hid hMd
        clear hMd hck hixL
        go_loopw [32] (fun i wq => ∃ j : Nat, j ≤ M.length ∧ i = .int .i64 j ∧ Own 3 wb wq (.slice (some ⟨g, 0, none⟩) (ord l) (ord l)) (tabIn l (nthN L k) (tabOut l b (List.replicate (ord l) 0) (L.take k)) (M.take j)) ∧ Own 3 w2 wq (.slice (some ⟨gL, 0, none⟩) L.length cL) (castL L) ∧ Own 3 wr wq (.slice aoM M.length cM) (castL M) ∧ Ext wb wq) (fun i _ => M.length - (intOf i).toNat)
        case atStart => exact ⟨0, by omega, rfl, hO, hL, hM, hE⟩
        case round =>
          clear hE hO hL hM hbx
          obtain ⟨j, hj, rfl, hO, hL, hM, hE⟩ := hrel
          have hbx := hb _ hE
          by_cases hlt2 : j < M.length
          · obtain ⟨gM, rfl, -, -⟩ := hM.row (castL_len M) (by omega)
            have hck := (hM.cellAt (castL_len M) hlt2).1
            rw [castL_nth] at hck
            have hixM := row_index gM M.length cM
            have hy24 := hallM _ (nthN_mem hlt2)
            have Hsn2 := Lib.hid (tabIn_snoc l (nthN L k) (tabOut l b (List.replicate (ord l) 0) (L.take k)) (M.take j) (nthN M j))
            have Htk2 := Lib.hid (take_nthN M j hlt2)
            have hMj : (M.take j).length ≤ 24 := by rw [List.length_take]; omega
            have hfit := tab_fits Hgr.out (b := b) (x := nthN L k) hLk hMj (addF l (nthN L k) (nthN M j))
            have hzo := addF_lt l (isGrp_ords Hgr.out) (nthN L k) (nthN M j)
            have hT : Hid ((tabIn l (nthN L k) (tabOut l b (List.replicate (ord l) 0) (L.take k)) (M.take j)).length = ord l) := Lib.hid (by rw [tabIn_len, tabOut_len]; simp)
            generalize tabIn l (nthN L k) (tabOut l b (List.replicate (ord l) 0) (L.take k)) (M.take j) = T at hO hfit Hsn2 hT
            go_wp2_with (first | (go_at_call 223; refine (add_any _ _ _ _ _ (hg _ hE) Hgr (by omega) (by omega)).mono ?_; rintro e w4 ⟨rfl, hE'⟩; replace hO := hO.ext hE'; replace hL := hL.ext hE'; replace hM := hM.ext hE'; replace hE := hE.trans hE'; obtain ⟨hzc, hzf⟩ := hO.cellAt hT.out hzo; clear hE'))
            go_roundw
            case rel =>
              refine ⟨j + 1, by omega, by go_num, ?_, hL.setCell_below hg2 _, hM.setCell_below hgw _, hE.setCell hg1 _⟩
              rw [Htk2.out, Hsn2.out]
              exact (hO.stored_grown hT.out _ _).1
            case measure => (simp [intOf]; omega)
          · have hkl : j = M.length := by omega
            subst hkl
            have hO' : Own 3 wb wr (.slice (some ⟨g, 0, none⟩) (ord l) (ord l)) (tabOut l b (List.replicate (ord l) 0) (L.take (k + 1))) := by
              rw [Htk.out, Hsn.out, ← HMd.out]; rw [List.take_length] at hO; exact hO
            go_wp2_with fail
            go_roundw
            case rel => exact ⟨k + 1, by omega, by go_num, hO', hL, hE⟩
            case measure => (simp [intOf]; omega)
      · have hkl : k = L.length := by omega
        subst hkl
        rw [List.take_length, ← Hs.out] at hO
        go_wp2_with fail
        go_ret
        exact ⟨_, rfl, hO.mono hE0, hE0.trans hE⟩
end Go.Zz
